/-
  Texts of this claim, joined.
-/
import Derived.Lib.Bytealg
import Derived.Test.YtiobnaielfeeaaaPcF

set_option linter.unusedSimpArgs false
set_option linter.unusedVariables false
set_option linter.unnecessarySimpa false
set_option maxRecDepth 100000
set_option maxHeartbeats 16000000
namespace Go.Proofs.Ytiobnaielfeeaaa
open Go Go.RowKit
structure Shp where
  kind : Int
  names : List ByteArray
  needs : List Bool
  kids : List Shp
theorem Shp.ind' (P : Shp → Prop) (h : ∀ n : Shp, (∀ k ∈ n.kids, P k) → P n) : ∀ n, P n := by
  intro n
  refine Shp.rec (motive_1 := P) (motive_2 := fun l => ∀ k ∈ l, P k) ?_ ?_ ?_ n
  · intro kind names needs kids ih
    exact h ⟨kind, names, needs, kids⟩ ih
  · intro k hk; cases hk
  · intro k ks h1 h2 x hx
    rcases List.mem_cons.1 hx with rfl | hx
    · exact h1
    · exact h2 _ hx
def BoolsR (w : World) (S : Nat → Prop) (a : Option Addr) (c : Nat) (xs : List Bool) : Prop :=
  xs.length ≤ c ∧ xs.length ≤ big ∧ (xs = [] ∨ ∃ b o, a = some ⟨b, o, none⟩ ∧ S b ∧ ∀ i (h : i < xs.length), w.cell? ⟨b, o + i, none⟩ = some (.bool xs[i]))
mutual
def ShapeC (w : World) (S : Nat → Prop) : Shp → Option Addr → Nat → Option Addr → Nat → Option Addr → Nat → Prop
  | ⟨_, names, needs, kids⟩, na, nc, ba, bc, ka, kc => StrsR w S na nc names ∧ BoolsR w S ba bc needs ∧ kids.length ≤ kc ∧ kids.length ≤ big ∧ (kids = [] ∨ ∃ b o, ka = some ⟨b, o, none⟩ ∧ S b ∧ ShpsR w S b o kids)
def ShpsR (w : World) (S : Nat → Prop) (b : Nat) : Nat → List Shp → Prop
  | _, [] => True
  | o, k :: ks => (∃ na nc ba bc ka kc, w.cell? ⟨b, o, none⟩ = some (.int .i64 k.kind) ∧ w.cell? ⟨b, o + 1, none⟩ = some (.slice na k.names.length nc) ∧
      w.cell? ⟨b, o + 2, none⟩ = some (.slice ba k.needs.length bc) ∧ w.cell? ⟨b, o + 3, none⟩ = some (.slice ka k.kids.length kc) ∧ ShapeC w S k na nc ba bc ka kc) ∧ ShpsR w S b (o + 4) ks
end
def shapeV (n : Shp) (na : Option Addr) (nc : Nat) (ba : Option Addr) (bc : Nat) (ka : Option Addr) (kc : Nat) : Value :=
  .agg #[.int .i64 n.kind, .slice na n.names.length nc, .slice ba n.needs.length bc, .slice ka n.kids.length kc]
def ShapeR (w : World) (S : Nat → Prop) (n : Shp) (v : Value) : Prop := ∃ na nc ba bc ka kc, v = shapeV n na nc ba bc ka kc ∧ ShapeC w S n na nc ba bc ka kc
theorem BoolsR.ext {X S : Nat → Prop} {w w' : World} (h : Ext X w w') (hS : ∀ k, S k → ¬ X k) {a : Option Addr} {c : Nat} {xs : List Bool} (hs : BoolsR w S a c xs) : BoolsR w' S a c xs := by
  obtain ⟨h1, h2, h4⟩ := hs
  refine ⟨h1, h2, h4.imp id ?_⟩
  rintro ⟨b, o, rfl, hb, hc⟩
  exact ⟨b, o, rfl, hb, fun i hi => h.some (hc i hi) (hS b hb)⟩
theorem ShapeC.parts {w : World} {S : Nat → Prop} {n : Shp} {na : Option Addr} {nc : Nat} {ba : Option Addr} {bc : Nat} {ka : Option Addr} {kc : Nat} (h : ShapeC w S n na nc ba bc ka kc) :
    StrsR w S na nc n.names ∧ BoolsR w S ba bc n.needs ∧ n.kids.length ≤ kc ∧ n.kids.length ≤ big ∧ (n.kids = [] ∨ ∃ b o, ka = some ⟨b, o, none⟩ ∧ S b ∧ ShpsR w S b o n.kids) := by
  cases n; unfold ShapeC at h; exact h
mutual
theorem ShapeC.ext {X S : Nat → Prop} {w w' : World} (h : Ext X w w') (hS : ∀ k, S k → ¬ X k) : ∀ {n : Shp} {na : Option Addr} {nc : Nat} {ba : Option Addr} {bc : Nat} {ka : Option Addr} {kc : Nat}, ShapeC w S n na nc ba bc ka kc → ShapeC w' S n na nc ba bc ka kc
  | ⟨_, _, _, kids⟩, na, nc, ba, bc, ka, kc, hn => by
    unfold ShapeC at hn ⊢
    obtain ⟨h1, h2, h3, h4, h5⟩ := hn
    refine ⟨h1.ext h hS, h2.ext h hS, h3, h4, h5.imp id ?_⟩
    rintro ⟨b, o, e, hb, hk⟩
    exact ⟨b, o, e, hb, ShpsR.ext h hS (hS b hb) hk⟩
theorem ShpsR.ext {X S : Nat → Prop} {w w' : World} (h : Ext X w w') (hS : ∀ k, S k → ¬ X k) {b : Nat} (hb : ¬ X b) : ∀ {l : List Shp} {o : Nat}, ShpsR w S b o l → ShpsR w' S b o l
  | [], _, _ => by unfold ShpsR; trivial
  | k :: ks, o, hk => by
    unfold ShpsR at hk ⊢
    obtain ⟨⟨na, nc, ba, bc, ka, kc, c0, c1, c2, c3, hn⟩, hr⟩ := hk
    exact ⟨⟨na, nc, ba, bc, ka, kc, h.some c0 hb, h.some c1 hb, h.some c2 hb, h.some c3 hb, ShapeC.ext h hS hn⟩, ShpsR.ext h hS hb hr⟩
end
theorem ShpsR.get {w : World} {S : Nat → Prop} {b : Nat} : ∀ {l : List Shp} {o : Nat}, ShpsR w S b o l → ∀ i (h : i < l.length), ∃ na nc ba bc ka kc,
    w.cell? ⟨b, o + i * 4, none⟩ = some (.int .i64 l[i].kind) ∧ w.cell? ⟨b, o + i * 4 + 1, none⟩ = some (.slice na l[i].names.length nc) ∧
      w.cell? ⟨b, o + i * 4 + 2, none⟩ = some (.slice ba l[i].needs.length bc) ∧ w.cell? ⟨b, o + i * 4 + 3, none⟩ = some (.slice ka l[i].kids.length kc) ∧ ShapeC w S l[i] na nc ba bc ka kc
  | [], _, _, i, h => absurd h (by simp)
  | k :: ks, o, hk, 0, _ => by
    unfold ShpsR at hk
    simpa using hk.1
  | k :: ks, o, hk, i + 1, h => by
    unfold ShpsR at hk
    have := ShpsR.get hk.2 i (by simpa using h)
    simp only [List.getElem_cons_succ]
    have e : o + (i + 1) * 4 = o + 4 + i * 4 := by omega
    rw [e]
    exact this
theorem ShapeR.ext {X S : Nat → Prop} {w w' : World} (h : Ext X w w') (hS : ∀ k, S k → ¬ X k) {n : Shp} {v : Value} (hn : ShapeR w S n v) : ShapeR w' S n v := by
  obtain ⟨na, nc, ba, bc, ka, kc, hv, hc⟩ := hn
  exact ⟨na, nc, ba, bc, ka, kc, hv, hc.ext h hS⟩
theorem ShapeR.grow {S : Nat → Prop} {w w' : World} {n : Shp} {v : Value} (hn : ShapeR w S n v) (h : Grow w w') : ShapeR w' S n v := hn.ext h (fun _ _ h => h)
end Go.Proofs.Ytiobnaielfeeaaa
namespace Go.Proofs.Ytiobnaielfeeaaa
open Go.RowKit
def shpHead (x : Shp) : Bool :=
  inR x.kind 0 4 && areNamesB x.names && !(decide (0 < x.names.length) && decide (x.kind ≠ 4)) && decide (x.needs.length = x.names.length) && decide (x.kids.length = x.names.length)
mutual
def shpB : Shp → Nat → Bool
  | ⟨kind, names, needs, kids⟩, d => decide (0 < d) && shpHead ⟨kind, names, needs, kids⟩ && shpL kids (d - 1)
def shpL : List Shp → Nat → Bool
  | [], _ => true
  | k :: ks, d => shpB k d && shpL ks d
end
theorem shpB_eq (x : Shp) (d : Nat) : shpB x d = (decide (0 < d) && shpHead x && shpL x.kids (d - 1)) := by cases x; simp [shpB]
theorem shpL_all (l : List Shp) (d : Nat) : shpL l d = l.all fun k => shpB k d := by
  induction l with
  | nil => simp [shpL]
  | cons a l ih => simp [shpL, ih]
end Go.Proofs.Ytiobnaielfeeaaa
namespace Go.Proofs.Ytiobnaielfeeaaa
open Go.RowKit
end Go.Proofs.Ytiobnaielfeeaaa
namespace Go.Proofs.Ytiobnaielfeeaaa
open Go.RowKit
end Go.Proofs.Ytiobnaielfeeaaa
namespace Go.Proofs.Ytiobnaielfeeaaa
open Go.RowKit
def Good (n : Nd) : Prop := ∃ d, shapeB n d = true
def GoodS (x : Shp) : Prop := ∃ d, d ≤ 5 ∧ shpB x d = true
theorem Good.parts {n : Nd} (h : Good n) : partsB n = true := by
  obtain ⟨d, h⟩ := h
  rw [shapeB_eq] at h
  simp only [Bool.and_eq_true] at h
  exact h.1.2
theorem Good.kid {n k : Nd} (h : Good n) (hk : k ∈ n.kids) : Good k := by
  obtain ⟨d, h⟩ := h
  rw [shapeB_eq, shapeL_all] at h
  simp only [Bool.and_eq_true, List.all_eq_true] at h
  exact ⟨d - 1, h.2 k hk⟩
theorem Good.zero : Good Nd.zero := ⟨1, by simp [shapeB_eq, partsB, Nd.zero, shapeL]⟩
theorem Good.kids6 {n : Nd} (h : Good n) : n.kids.length ≤ 6 := partsB_kids h.parts
theorem Good.map {n : Nd} (h : Good n) (hk : n.kind = 4) : Asc n.names ∧ n.kids.length = n.names.length := by
  have hp := h.parts
  simp only [partsB, hk, Bool.and_eq_true] at hp
  simp [areNamesB] at hp
  exact ⟨namesB_asc hp.2.1.2, hp.2.2⟩
theorem Good.other {n : Nd} (h : Good n) (hk : n.kind ≠ 4) : n.names = [] := by
  have hp := h.parts
  simp only [partsB, hk, Bool.and_eq_true] at hp
  simp at hp
  exact hp.1.2
theorem Good.len {n : Nd} (h : Good n) : n.names.length ≤ n.kids.length := by
  by_cases hk : n.kind = 4
  · rw [(h.map hk).2]; exact Nat.le_refl _
  · rw [h.other hk]; exact Nat.zero_le _
theorem GoodS.kid {x k : Shp} (h : GoodS x) (hk : k ∈ x.kids) : GoodS k := by
  obtain ⟨d, hd, h⟩ := h
  rw [shpB_eq, shpL_all] at h
  simp only [Bool.and_eq_true, List.all_eq_true] at h
  exact ⟨d - 1, by omega, h.2 k hk⟩
end Go.Proofs.Ytiobnaielfeeaaa
namespace Go.Proofs.Ytiobnaielfeeaaa
open Go.RowKit
def sgnI (a b : Int) : Int := if a < b then -1 else if b < a then 1 else 0
def sgnT (a b : ByteArray) : Int := if lt a b then -1 else if lt b a then 1 else 0
theorem sgnI_refl (a : Int) : sgnI a a = 0 := by simp [sgnI]
theorem sgnI_zero {a b : Int} : sgnI a b = 0 ↔ a = b := by
  unfold sgnI
  by_cases h1 : a < b
  · simp [h1]; omega
  · by_cases h2 : b < a
    · simp [h1, h2]; omega
    · simp [h1, h2]; omega
theorem sgnT_refl (a : ByteArray) : sgnT a a = 0 := by simp [sgnT, lt_irr]
theorem sgnT_zero {a b : ByteArray} : sgnT a b = 0 ↔ a = b := by
  rcases bl_cases a b with ⟨h1, h2, _, _, h3⟩ | ⟨h1, h2, _, _, h3⟩ | h
  · simp [sgnT, lt, h1, h3]
  · simp [sgnT, lt, h1, h2, h3]
  · subst h; simp [sgnT_refl]
theorem compareBytes_bl : ∀ a b : List UInt8, Lib.compareBytes a b = if Op.bytesLess a b then -1 else if Op.bytesLess b a then 1 else 0
  | [], [] => rfl
  | [], _ :: _ => rfl
  | _ :: _, [] => rfl
  | x :: a, y :: b => by
    have ih := compareBytes_bl a b
    simp only [Lib.compareBytes, Op.bytesLess]
    rcases (show x.toNat < y.toNat ∨ x.toNat = y.toNat ∨ y.toNat < x.toNat from by omega) with h | h | h
    · have h1 : x < y := UInt8.lt_iff_toNat_lt.2 h
      simp [h1]
    · have h3 : x = y := UInt8.toNat_inj.1 h
      subst h3
      have h1 : ¬ x < x := fun h' => by have := UInt8.lt_iff_toNat_lt.1 h'; omega
      simp [h1, ih]
    · have h1 : y < x := UInt8.lt_iff_toNat_lt.2 h
      have h2 : ¬ x < y := fun h' => by have := UInt8.lt_iff_toNat_lt.1 h'; omega
      have h3 : ¬ x = y := fun e => by subst e; omega
      simp [h1, h2, h3]
theorem run_cmpstring (a b : ByteArray) (w : World) :
    (callFunc 125 #[.string a, .string b]).run Try.prog w = .ok (.value (.int .i64 (sgnT a b))) w := by
  rw [run_callFunc_extern (P := Try.prog) (f := 125) (fn := Try.f125) (e := Extern.BytealgCompare.compare) (by kernel_rfl) (by kernel_rfl) (by kernel_rfl) (by kernel_rfl) (by kernel_rfl)]
  rw [Lib.run_compareString, compareBytes_bl]
  simp only [← ByteArray.toList_eq]
  rfl
theorem stringsCompare_ok (a b : ByteArray) (w : World) : Calls Try.prog 80 #[.string a, .string b] w fun e w' => e = .returned (.int .i64 (sgnT a b)) ∧ w' = w := by
  have hx := run_cmpstring a b w
  have h2 : Calls Try.prog 107 #[.string a, .string b] w fun e w' => e = .returned (.int .i64 (sgnT a b)) ∧ w' = w := by
    go_enter Try.func107, Try.ntmps107
    go_wp2
    go_ret
    exact ⟨by simp, rfl⟩
  clear hx
  go_enter Try.func80, Try.ntmps80
  go_wp2_with fail
  refine h2.mono ?_
  rintro e w' ⟨rfl, rfl⟩
  go_wp2_with fail
  go_ret
  exact ⟨by simp, rfl⟩
theorem cmpIsNaNInt_ok (s : Int) (w : World) : Calls Try.prog 106 #[.int .i64 s] w fun e w' => e = .returned (.bool false) ∧ w' = w := by
  go_enter Try.func106, Try.ntmps106
  go_wp2
  go_ret
  exact ⟨by simp, rfl⟩
theorem cmpCompare_ok (a b : Int) (w : World) : Calls Try.prog 79 #[.int .i64 a, .int .i64 b] w fun e w' => e = .returned (.int .i64 (sgnI a b)) ∧ w' = w := by
  rcases (show a < b ∨ b < a ∨ a = b by omega) with h | h | h
  · have Hf : Hid (sgnI a b = -1) := Lib.hid (by simp [sgnI, h])
    go_enter Try.func79, Try.ntmps79
    go_wp2_with (go_at_call 106; refine (cmpIsNaNInt_ok _ _).mono ?_; rintro e w' ⟨rfl, rfl⟩)
    go_ret
    exact ⟨by simp [Hf.out], rfl⟩
  · have Hf : Hid (sgnI a b = 1) := Lib.hid (by have : ¬ a < b := by omega
                                                simp [sgnI, h, this])
    go_enter Try.func79, Try.ntmps79
    go_wp2_with (go_at_call 106; refine (cmpIsNaNInt_ok _ _).mono ?_; rintro e w' ⟨rfl, rfl⟩)
    go_ret
    exact ⟨by simp [Hf.out], rfl⟩
  · subst h
    have Hf : Hid (sgnI a a = 0) := Lib.hid (sgnI_refl a)
    go_enter Try.func79, Try.ntmps79
    go_wp2_with (go_at_call 106; refine (cmpIsNaNInt_ok _ _).mono ?_; rintro e w' ⟨rfl, rfl⟩)
    go_ret
    exact ⟨by simp [Hf.out], rfl⟩
theorem toInt_ok (b : Bool) (w : World) : Calls Try.prog 63 #[.bool b] w fun e w' => e = .returned (.int .i64 (if b then 1 else 0)) ∧ w' = w := by
  cases b
  all_goals
    go_enter Try.func63, Try.ntmps63
    go_wp2
    go_ret
    exact ⟨by simp, rfl⟩
theorem order_ok (a b : Int) (w : World) : Calls Try.prog 81 #[.int .i64 a, .int .i64 b] w fun e w' => e = .returned (.int .i64 (sgnI a b)) ∧ w' = w := by
  rcases (show a < b ∨ b < a ∨ a = b by omega) with h | h | h
  · have Hf : Hid (sgnI a b = -1) := Lib.hid (by simp [sgnI, h])
    have h1 : (decide (b < a)) = false := by simp; omega
    have h2 : (decide (a < b)) = true := by simp; omega
    go_enter Try.func81, Try.ntmps81
    go_wp2_with (go_at_call 63; refine (toInt_ok _ _).mono ?_; rintro e w' ⟨rfl, rfl⟩)
    go_ret
    exact ⟨by simp [Hf.out], rfl⟩
  · have Hf : Hid (sgnI a b = 1) := Lib.hid (by have : ¬ a < b := by omega
                                                simp [sgnI, h, this])
    have h1 : (decide (b < a)) = true := by simp; omega
    have h2 : (decide (a < b)) = false := by simp; omega
    go_enter Try.func81, Try.ntmps81
    go_wp2_with (go_at_call 63; refine (toInt_ok _ _).mono ?_; rintro e w' ⟨rfl, rfl⟩)
    go_ret
    exact ⟨by simp [Hf.out], rfl⟩
  · subst h
    have Hf : Hid (sgnI a a = 0) := Lib.hid (sgnI_refl a)
    have h1 : (decide (a < a)) = false := by simp
    go_enter Try.func81, Try.ntmps81
    go_wp2_with (go_at_call 63; refine (toInt_ok _ _).mono ?_; rintro e w' ⟨rfl, rfl⟩)
    go_ret
    exact ⟨by simp [Hf.out], rfl⟩
theorem orderText_ok (a b : ByteArray) (w : World) : Calls Try.prog 82 #[.string a, .string b] w fun e w' => e = .returned (.int .i64 (sgnT a b)) ∧ w' = w := by
  rcases bl_cases a b with ⟨l1, l2, l3, l4, hne⟩ | ⟨l1, l2, l3, l4, hne⟩ | l0
  · have Hf : Hid (sgnT a b = -1) := Lib.hid (by simp [sgnT, lt, l1])
    clear hne
    go_enter Try.func82, Try.ntmps82
    go_wp2_with (go_at_call 63; refine (toInt_ok _ _).mono ?_; rintro e w' ⟨rfl, rfl⟩)
    go_ret
    exact ⟨by simp [Hf.out], rfl⟩
  · have Hf : Hid (sgnT a b = 1) := Lib.hid (by simp [sgnT, lt, l1, l2])
    clear hne
    go_enter Try.func82, Try.ntmps82
    go_wp2_with (go_at_call 63; refine (toInt_ok _ _).mono ?_; rintro e w' ⟨rfl, rfl⟩)
    go_ret
    exact ⟨by simp [Hf.out], rfl⟩
  · subst l0
    have l1 := blF_irrefl a
    have l3 : (a.toList == a.toList) = true := by simp
    have Hf : Hid (sgnT a a = 0) := Lib.hid (sgnT_refl a)
    go_enter Try.func82, Try.ntmps82
    go_wp2_with (go_at_call 63; refine (toInt_ok _ _).mono ?_; rintro e w' ⟨rfl, rfl⟩)
    go_ret
    exact ⟨by simp [Hf.out], rfl⟩
end Go.Proofs.Ytiobnaielfeeaaa
namespace Go.Proofs.Ytiobnaielfeeaaa
open Go.RowKit
mutual
def cmpN : Nd → Nd → Int
  | ⟨kind, num, text, names, kids⟩, b =>
    if sgnI kind b.kind ≠ 0 then sgnI kind b.kind else if sgnI num b.num ≠ 0 then sgnI num b.num else if sgnT text b.text ≠ 0 then sgnT text b.text
    else cmpKs (decide (kind = 4)) names b.names kids b.kids
def cmpKs : Bool → List ByteArray → List ByteArray → List Nd → List Nd → Int
  | m, ns, ms, k :: ks, j :: js =>
    if m = true ∧ sgnT (ns.headD ⟨#[]⟩) (ms.headD ⟨#[]⟩) ≠ 0 then sgnT (ns.headD ⟨#[]⟩) (ms.headD ⟨#[]⟩) else if cmpN k j ≠ 0 then cmpN k j else cmpKs m ns.tail ms.tail ks js
  | _, _, _, [], js => sgnI 0 js.length
  | _, _, _, ks, [] => sgnI ks.length 0
end
theorem cmpN_eq (a b : Nd) : cmpN a b = if sgnI a.kind b.kind ≠ 0 then sgnI a.kind b.kind else if sgnI a.num b.num ≠ 0 then sgnI a.num b.num else if sgnT a.text b.text ≠ 0 then sgnT a.text b.text
    else cmpKs (decide (a.kind = 4)) a.names b.names a.kids b.kids := by cases a; simp [cmpN]
theorem headD_drop (l : List ByteArray) (k : Nat) (h : k < l.length) (d : ByteArray) : (l.drop k).headD d = l[k] := by
  rw [drop_cons _ _ h]; rfl
theorem cmpKs_map {ns ms : List ByteArray} {ks js : List Nd} {k : Nat} (h1 : k < ks.length) (h2 : k < js.length) (h3 : k < ns.length) (h4 : k < ms.length) :
    cmpKs true (ns.drop k) (ms.drop k) (ks.drop k) (js.drop k) = if sgnT ns[k] ms[k] ≠ 0 then sgnT ns[k] ms[k] else if cmpN ks[k] js[k] ≠ 0 then cmpN ks[k] js[k] else cmpKs true (ns.drop (k + 1)) (ms.drop (k + 1)) (ks.drop (k + 1)) (js.drop (k + 1)) := by
  rw [drop_cons _ _ h1, drop_cons _ _ h2, cmpKs, headD_drop _ _ h3, headD_drop _ _ h4]
  simp [List.tail_drop]
theorem cmpKs_list {ns ms : List ByteArray} {ks js : List Nd} {k : Nat} (h1 : k < ks.length) (h2 : k < js.length) :
    cmpKs false (ns.drop k) (ms.drop k) (ks.drop k) (js.drop k) = if cmpN ks[k] js[k] ≠ 0 then cmpN ks[k] js[k] else cmpKs false (ns.drop (k + 1)) (ms.drop (k + 1)) (ks.drop (k + 1)) (js.drop (k + 1)) := by
  rw [drop_cons _ _ h1, drop_cons _ _ h2, cmpKs]
  simp [List.tail_drop]
theorem cmpKs_end (m : Bool) (ns ms : List ByteArray) (ks js : List Nd) (k : Nat) (hk1 : k ≤ ks.length) (hk2 : k ≤ js.length) (h : ¬ (k < ks.length ∧ k < js.length)) :
    cmpKs m (ns.drop k) (ms.drop k) (ks.drop k) (js.drop k) = sgnI ks.length js.length := by
  by_cases h1 : k < ks.length
  · have h2 : k = js.length := by omega
    have e : js.drop k = [] := List.drop_eq_nil_of_le (by omega)
    rw [drop_cons _ _ h1, e, cmpKs]
    · simp only [List.length_cons, List.length_drop, sgnI]
      rw [if_neg (by omega), if_pos (by omega), if_neg (by omega), if_pos (by omega)]
    · intro h; simp at h; omega
  · have h2 : k = ks.length := by omega
    have e : ks.drop k = [] := List.drop_eq_nil_of_le (by omega)
    rw [e, cmpKs]
    simp only [List.length_drop, sgnI]
    by_cases h3 : k < js.length
    · rw [if_pos (by omega), if_pos (by omega)]
    · rw [if_neg (by omega), if_neg (by omega), if_neg (by omega), if_neg (by omega)]
def CmpIOk (a : Nd) : Prop := ∀ (b : Nd) (v u : Value) (w : World), Good a → Good b → NodeR w any a v → NodeR w any b u →
    Calls Try.prog 48 #[v, u] w fun e w' => e = .returned (.int .i64 (cmpN a b)) ∧ Grow w w'
def CmpSOk (a : Nd) : Prop := ∀ (b : Nd) (v u : Value) (w : World), Good a → Good b → NodeR w any a v → NodeR w any b u →
    Calls Try.prog 49 #[v, u] w fun e w' => e = .returned (.int .i64 (cmpN a b)) ∧ Grow w w'
theorem bne0 {c : Int} (h : c = 0) : (c != 0) = false := by simp [h]
theorem bne1 {c : Int} (h : ¬ c = 0) : (c != 0) = true := by simp [h]
theorem compareValid_of (a : Nd) (ih : ∀ k ∈ a.kids, CmpIOk k) : CmpIOk a := by
  intro b v u w hga hgb hv hu
  obtain ⟨na, nc, ka, kc, rfl, hc⟩ := hv
  obtain ⟨na2, nc2, ka2, kc2, rfl, hc2⟩ := hu
  obtain ⟨_, hns, hks⟩ := hc.parts
  obtain ⟨_, hns2, hks2⟩ := hc2.parts
  have l1 : a.kids.length ≤ 6 := hga.kids6
  have l2 : b.kids.length ≤ 6 := hgb.kids6
  have Hns := Lib.hid hns
  have Hks := Lib.hid hks
  have Hns2 := Lib.hid hns2
  have Hks2 := Lib.hid hks2
  have Hga := Lib.hid hga
  have Hgb := Lib.hid hgb
  have Ih := Lib.hid ih
  have Hf := Lib.hid (cmpN_eq a b)
  clear hc hc2 hns hks hns2 hks2 hga hgb ih
  unfold nodeV
  by_cases h1 : sgnI a.kind b.kind = 0
  rotate_left
  · have b1 := bne1 h1
    have Hff : Hid (cmpN a b = sgnI a.kind b.kind) := Lib.hid (by rw [Hf.out, if_pos h1])
    clear h1
    go_enter Try.func48, Try.ntmps48
    go_wp2_with fail
    refine (cmpCompare_ok _ _ _).mono ?_
    rintro e w' ⟨rfl, rfl⟩
    go_wp2_with fail
    go_ret
    exact ⟨by simp [Hff.out], (by repeat (first | with_reducible exact Ext.refl _ _ | with_reducible refine Ext.trans ?_ (by assumption) | with_reducible refine Ext.drew ?_ | with_reducible refine Ext.drewN ?_ _ | with_reducible refine Ext.alloc ?_ _ | with_reducible refine Ext.setNew ?_ (by simp; done) _ | with_reducible refine Ext.setNew ?_ (by simp; omega) _))⟩
  have b1 := bne0 h1
  by_cases h2 : sgnI a.num b.num = 0
  rotate_left
  · have b2 := bne1 h2
    have Hff : Hid (cmpN a b = sgnI a.num b.num) := Lib.hid (by rw [Hf.out, if_neg (by simpa using h1), if_pos h2])
    clear h1 h2
    go_enter Try.func48, Try.ntmps48
    go_wp2_with fail
    refine (cmpCompare_ok _ _ _).mono ?_
    rintro e w' ⟨rfl, rfl⟩
    go_wp2_with fail
    refine (cmpCompare_ok _ _ _).mono ?_
    rintro e w' ⟨rfl, rfl⟩
    go_wp2_with fail
    go_ret
    exact ⟨by simp [Hff.out], (by repeat (first | with_reducible exact Ext.refl _ _ | with_reducible refine Ext.trans ?_ (by assumption) | with_reducible refine Ext.drew ?_ | with_reducible refine Ext.drewN ?_ _ | with_reducible refine Ext.alloc ?_ _ | with_reducible refine Ext.setNew ?_ (by simp; done) _ | with_reducible refine Ext.setNew ?_ (by simp; omega) _))⟩
  have b2 := bne0 h2
  by_cases h3 : sgnT a.text b.text = 0
  rotate_left
  · have b3 := bne1 h3
    have Hff : Hid (cmpN a b = sgnT a.text b.text) := Lib.hid (by rw [Hf.out, if_neg (by simpa using h1), if_neg (by simpa using h2), if_pos h3])
    clear h1 h2 h3
    go_enter Try.func48, Try.ntmps48
    go_wp2_with fail
    refine (cmpCompare_ok _ _ _).mono ?_
    rintro e w' ⟨rfl, rfl⟩
    go_wp2_with fail
    refine (cmpCompare_ok _ _ _).mono ?_
    rintro e w' ⟨rfl, rfl⟩
    go_wp2_with fail
    refine (stringsCompare_ok _ _ _).mono ?_
    rintro e w' ⟨rfl, rfl⟩
    go_wp2_with fail
    go_ret
    exact ⟨by simp [Hff.out], (by repeat (first | with_reducible exact Ext.refl _ _ | with_reducible refine Ext.trans ?_ (by assumption) | with_reducible refine Ext.drew ?_ | with_reducible refine Ext.drewN ?_ _ | with_reducible refine Ext.alloc ?_ _ | with_reducible refine Ext.setNew ?_ (by simp; done) _ | with_reducible refine Ext.setNew ?_ (by simp; omega) _))⟩
  have b3 := bne0 h3
  have hkk : a.kind = b.kind := sgnI_zero.1 h1
  have Hkk := Lib.hid hkk
  have Hff : Hid (cmpN a b = cmpKs (decide (a.kind = 4)) a.names b.names a.kids b.kids) := Lib.hid (by rw [Hf.out, if_neg (by simpa using h1), if_neg (by simpa using h2), if_neg (by simpa using h3)])
  clear h1 h2 h3 hkk
  go_enter Try.func48, Try.ntmps48
  go_wp2_with fail
  refine (cmpCompare_ok _ _ _).mono ?_
  rintro e w' ⟨rfl, rfl⟩
  go_wp2_with fail
  refine (cmpCompare_ok _ _ _).mono ?_
  rintro e w' ⟨rfl, rfl⟩
  go_wp2_with fail
  refine (stringsCompare_ok _ _ _).mono ?_
  rintro e w' ⟨rfl, rfl⟩
  go_wp2_with fail
  clear b1 b2 b3
  go_loopw [4, 8] (fun t4 i wr => t4 = .int .i64 0 ∧ Grow w wr ∧ BoxN wr w.heap.size (nodeL a na nc ka kc) ∧ BoxN wr (w.heap.size + 1) (nodeL b na2 nc2 ka2 kc2) ∧ ∃ k : Nat, k ≤ a.kids.length ∧ k ≤ b.kids.length ∧ i = .int .i64 k ∧ cmpKs (decide (a.kind = 4)) a.names b.names a.kids b.kids = cmpKs (decide (a.kind = 4)) (a.names.drop k) (b.names.drop k) (a.kids.drop k) (b.kids.drop k)) (fun _ i _ => a.kids.length - (intOf i).toNat)
  case atStart => exact ⟨rfl, (by repeat (first | with_reducible exact Ext.refl _ _ | with_reducible refine Ext.trans ?_ (by assumption) | with_reducible refine Ext.drew ?_ | with_reducible refine Ext.drewN ?_ _ | with_reducible refine Ext.alloc ?_ _ | with_reducible refine Ext.setNew ?_ (by simp; done) _ | with_reducible refine Ext.setNew ?_ (by simp; omega) _)), (BoxN.new w (nodeL a na nc ka kc) _).grow ((Ext.refl nil _).alloc _), BoxN.new1 w _ (nodeL b na2 nc2 ka2 kc2) _, 0, Nat.zero_le _, Nat.zero_le _, rfl, rfl⟩
  case round =>
    obtain ⟨rfl, hg0, B1, B2, k, hk1, hk2, rfl, hs⟩ := hrel
    have Hs := Lib.hid hs
    clear hs
    have HB1 := Lib.hid B1
    have HB2 := Lib.hid B2
    clear B1 B2
    by_cases hlt : k < a.kids.length ∧ k < b.kids.length
    · obtain ⟨hlt1, hlt2⟩ := hlt
      rcases Hks.out.2.2 with hh | ⟨bk, ok, rfl, _, hkr⟩
      · rw [hh] at hlt1; simp at hlt1
      rcases Hks2.out.2.2 with hh | ⟨bk2, ok2, rfl, _, hkr2⟩
      · rw [hh] at hlt2; simp at hlt2
      obtain ⟨na', nc', ka', kc', c0, c1, c2, c3, c4, hkc⟩ := (hkr.ext hg0 (fun _ _ h => h) (fun h => h)).get k hlt1
      obtain ⟨na3, nc3, ka3, kc3, d0, d1, d2, d3, d4, hkc2⟩ := (hkr2.ext hg0 (fun _ _ h => h) (fun h => h)).get k hlt2
      have Hkc : Hid (NodeR wr any a.kids[k] (nodeV a.kids[k] na' nc' ka' kc')) := Lib.hid ⟨_, _, _, _, rfl, hkc⟩
      have Hkc2 : Hid (NodeR wr any b.kids[k] (nodeV b.kids[k] na3 nc3 ka3 kc3)) := Lib.hid ⟨_, _, _, _, rfl, hkc2⟩
      have Hgka := Lib.hid (Hga.out.kid (List.getElem_mem hlt1))
      have Hgkb := Lib.hid (Hgb.out.kid (List.getElem_mem hlt2))
      clear hkr hkr2 hkc hkc2
      have p3 := HB1.out.cell 3 _ rfl
      have p4 := HB1.out.cell 4 _ rfl
      have p0 := HB1.out.cell 0 _ rfl
      have q3 := HB2.out.cell 3 _ rfl
      have q4 := HB2.out.cell 4 _ rfl
      by_cases h4 : a.kind = 4
      · have e1 := (Hga.out.map h4).2
        have e2 := (Hgb.out.map (by rw [← Hkk.out]; exact h4)).2
        have n1 : k < a.names.length := by omega
        have n2 : k < b.names.length := by omega
        have b4 : (a.kind == 4) = true := by simp [h4]
        have hst := cmpKs_map (ns := a.names) (ms := b.names) hlt1 hlt2 n1 n2
        rcases ((Hns.out).grow hg0).2.2.2 with hh | ⟨b5, o5, rfl, _, hc5⟩
        · rw [hh] at n1; simp at n1
        rcases ((Hns2.out).grow hg0).2.2.2 with hh | ⟨b6, o6, rfl, _, hc6⟩
        · rw [hh] at n2; simp at n2
        have x1 := hc5 k n1
        have x2 := hc6 k n2
        clear hc5 hc6 e1 e2
        have Hd : Hid (decide (a.kind = 4) = true) := Lib.hid (by simp [h4])
        clear h4
        by_cases h5 : sgnT a.names[k] b.names[k] = 0
        · have b5' := bne0 h5
          have hst' := hst.trans (if_neg (by simpa using h5))
          clear hst h5
          by_cases h6 : cmpN a.kids[k] b.kids[k] = 0
          · have b6' := bne0 h6
            have Hst := Lib.hid (hst'.trans (if_neg (by simpa using h6)))
            clear hst' h6
            go_wp2_with fail
            (refine wp_region_later (by kernel_rfl) (by kernel_rfl) ?_; (repeat (first | go_big_quiet_step ((go_at_call 80; exact later_call_same (stringsCompare_ok _ _ _))) | quiet_step ((go_at_call 80; exact later_call_same (stringsCompare_ok _ _ _))))); refine wpQuiet_nil ?_; rintro _ ⟨x_w2, rfl⟩; have hg_w2 := later_grow wr x_w2; generalize later wr x_w2 = w2 at hg_w2 ⊢)
            (replace p0 := hg_w2.some p0; replace p3 := hg_w2.some p3; replace p4 := hg_w2.some p4; replace q3 := hg_w2.some q3; replace q4 := hg_w2.some q4; replace c0 := hg_w2.some c0; replace c1 := hg_w2.some c1; replace c2 := hg_w2.some c2; replace c3 := hg_w2.some c3; replace c4 := hg_w2.some c4; replace d0 := hg_w2.some d0; replace d1 := hg_w2.some d1; replace d2 := hg_w2.some d2; replace d3 := hg_w2.some d3; replace d4 := hg_w2.some d4)
            go_wp2_with fail
            (refine wp_region_later (by kernel_rfl) (by kernel_rfl) ?_; (repeat (first | go_big_quiet_step ((go_at_call 48; exact later_call (v := .int .i64 (cmpN a.kids[k] b.kids[k])) (Ih.out _ (List.getElem_mem hlt1) b.kids[k] _ _ _ Hgka.out Hgkb.out (Hkc.out.grow (hg_w2.trans (later_grow _ _))) (Hkc2.out.grow (hg_w2.trans (later_grow _ _)))))) | quiet_step ((go_at_call 48; exact later_call (v := .int .i64 (cmpN a.kids[k] b.kids[k])) (Ih.out _ (List.getElem_mem hlt1) b.kids[k] _ _ _ Hgka.out Hgkb.out (Hkc.out.grow (hg_w2.trans (later_grow _ _))) (Hkc2.out.grow (hg_w2.trans (later_grow _ _)))))))); refine wpQuiet_nil ?_; rintro _ ⟨x_w3, rfl⟩; have hg_w3 := later_grow w2 x_w3; generalize later w2 x_w3 = w3 at hg_w3 ⊢)
            go_wp2_with fail
            go_roundw
            case rel => exact ⟨rfl, (by repeat (first | with_reducible exact Ext.refl _ _ | with_reducible refine Ext.trans ?_ (by assumption) | with_reducible refine Ext.drew ?_ | with_reducible refine Ext.drewN ?_ _ | with_reducible refine Ext.alloc ?_ _ | with_reducible refine Ext.setNew ?_ (by simp; done) _ | with_reducible refine Ext.setNew ?_ (by simp; omega) _)), HB1.out.grow (by repeat (first | with_reducible exact Ext.refl _ _ | with_reducible refine Ext.trans ?_ (by assumption) | with_reducible refine Ext.drew ?_ | with_reducible refine Ext.drewN ?_ _ | with_reducible refine Ext.alloc ?_ _ | with_reducible refine Ext.setNew ?_ (by simp; done) _ | with_reducible refine Ext.setNew ?_ (by simp; omega) _)), HB2.out.grow (by repeat (first | with_reducible exact Ext.refl _ _ | with_reducible refine Ext.trans ?_ (by assumption) | with_reducible refine Ext.drew ?_ | with_reducible refine Ext.drewN ?_ _ | with_reducible refine Ext.alloc ?_ _ | with_reducible refine Ext.setNew ?_ (by simp; done) _ | with_reducible refine Ext.setNew ?_ (by simp; omega) _)), k + 1, by omega, by omega, by go_num, by rw [Hs.out, Hd.out, Hst.out]⟩
            case measure => simp [intOf]; omega
          · have b6' := bne1 h6
            have Hst := Lib.hid (hst'.trans (if_pos h6))
            clear hst' h6
            go_wp2_with fail
            (refine wp_region_later (by kernel_rfl) (by kernel_rfl) ?_; (repeat (first | go_big_quiet_step ((go_at_call 80; exact later_call_same (stringsCompare_ok _ _ _))) | quiet_step ((go_at_call 80; exact later_call_same (stringsCompare_ok _ _ _))))); refine wpQuiet_nil ?_; rintro _ ⟨x_w2, rfl⟩; have hg_w2 := later_grow wr x_w2; generalize later wr x_w2 = w2 at hg_w2 ⊢)
            (replace p0 := hg_w2.some p0; replace p3 := hg_w2.some p3; replace p4 := hg_w2.some p4; replace q3 := hg_w2.some q3; replace q4 := hg_w2.some q4; replace c0 := hg_w2.some c0; replace c1 := hg_w2.some c1; replace c2 := hg_w2.some c2; replace c3 := hg_w2.some c3; replace c4 := hg_w2.some c4; replace d0 := hg_w2.some d0; replace d1 := hg_w2.some d1; replace d2 := hg_w2.some d2; replace d3 := hg_w2.some d3; replace d4 := hg_w2.some d4)
            go_wp2_with fail
            (refine wp_region_later (by kernel_rfl) (by kernel_rfl) ?_; (repeat (first | go_big_quiet_step ((go_at_call 48; exact later_call (v := .int .i64 (cmpN a.kids[k] b.kids[k])) (Ih.out _ (List.getElem_mem hlt1) b.kids[k] _ _ _ Hgka.out Hgkb.out (Hkc.out.grow (hg_w2.trans (later_grow _ _))) (Hkc2.out.grow (hg_w2.trans (later_grow _ _)))))) | quiet_step ((go_at_call 48; exact later_call (v := .int .i64 (cmpN a.kids[k] b.kids[k])) (Ih.out _ (List.getElem_mem hlt1) b.kids[k] _ _ _ Hgka.out Hgkb.out (Hkc.out.grow (hg_w2.trans (later_grow _ _))) (Hkc2.out.grow (hg_w2.trans (later_grow _ _)))))))); refine wpQuiet_nil ?_; rintro _ ⟨x_w3, rfl⟩; have hg_w3 := later_grow w2 x_w3; generalize later w2 x_w3 = w3 at hg_w3 ⊢)
            go_wp2_with fail
            go_ret
            exact ⟨by rw [Hff.out, Hs.out, Hd.out, Hst.out]; rfl, (by repeat (first | with_reducible exact Ext.refl _ _ | with_reducible refine Ext.trans ?_ (by assumption) | with_reducible refine Ext.drew ?_ | with_reducible refine Ext.drewN ?_ _ | with_reducible refine Ext.alloc ?_ _ | with_reducible refine Ext.setNew ?_ (by simp; done) _ | with_reducible refine Ext.setNew ?_ (by simp; omega) _))⟩
        · have b5' := bne1 h5
          have Hst := Lib.hid (hst.trans (if_pos h5))
          clear hst h5
          go_wp2_with fail
          (refine wp_region_later (by kernel_rfl) (by kernel_rfl) ?_; (repeat (first | go_big_quiet_step ((go_at_call 80; exact later_call_same (stringsCompare_ok _ _ _))) | quiet_step ((go_at_call 80; exact later_call_same (stringsCompare_ok _ _ _))))); refine wpQuiet_nil ?_; rintro _ ⟨x_w2, rfl⟩; have hg_w2 := later_grow wr x_w2; generalize later wr x_w2 = w2 at hg_w2 ⊢)
          go_wp2_with fail
          go_ret
          exact ⟨by rw [Hff.out, Hs.out, Hd.out, Hst.out]; rfl, (by repeat (first | with_reducible exact Ext.refl _ _ | with_reducible refine Ext.trans ?_ (by assumption) | with_reducible refine Ext.drew ?_ | with_reducible refine Ext.drewN ?_ _ | with_reducible refine Ext.alloc ?_ _ | with_reducible refine Ext.setNew ?_ (by simp; done) _ | with_reducible refine Ext.setNew ?_ (by simp; omega) _))⟩
      · have b4 : (a.kind == 4) = false := by simp [h4]
        have hst := cmpKs_list (ns := a.names) (ms := b.names) hlt1 hlt2
        have Hd : Hid (decide (a.kind = 4) = false) := Lib.hid (by simp [h4])
        clear h4
        by_cases h6 : cmpN a.kids[k] b.kids[k] = 0
        · have b6' := bne0 h6
          have Hst := Lib.hid (hst.trans (if_neg (by simpa using h6)))
          clear hst h6
          go_wp2_with fail
          (refine wp_region_later (by kernel_rfl) (by kernel_rfl) ?_; (repeat (first | go_big_quiet_step ((go_at_call 48; exact later_call (v := .int .i64 (cmpN a.kids[k] b.kids[k])) (Ih.out _ (List.getElem_mem hlt1) b.kids[k] _ _ _ Hgka.out Hgkb.out (Hkc.out.grow (later_grow _ _)) (Hkc2.out.grow (later_grow _ _))))) | quiet_step ((go_at_call 48; exact later_call (v := .int .i64 (cmpN a.kids[k] b.kids[k])) (Ih.out _ (List.getElem_mem hlt1) b.kids[k] _ _ _ Hgka.out Hgkb.out (Hkc.out.grow (later_grow _ _)) (Hkc2.out.grow (later_grow _ _))))))); refine wpQuiet_nil ?_; rintro _ ⟨x_w3, rfl⟩; have hg_w3 := later_grow wr x_w3; generalize later wr x_w3 = w3 at hg_w3 ⊢)
          go_wp2_with fail
          go_roundw
          case rel => exact ⟨rfl, (by repeat (first | with_reducible exact Ext.refl _ _ | with_reducible refine Ext.trans ?_ (by assumption) | with_reducible refine Ext.drew ?_ | with_reducible refine Ext.drewN ?_ _ | with_reducible refine Ext.alloc ?_ _ | with_reducible refine Ext.setNew ?_ (by simp; done) _ | with_reducible refine Ext.setNew ?_ (by simp; omega) _)), HB1.out.grow (by repeat (first | with_reducible exact Ext.refl _ _ | with_reducible refine Ext.trans ?_ (by assumption) | with_reducible refine Ext.drew ?_ | with_reducible refine Ext.drewN ?_ _ | with_reducible refine Ext.alloc ?_ _ | with_reducible refine Ext.setNew ?_ (by simp; done) _ | with_reducible refine Ext.setNew ?_ (by simp; omega) _)), HB2.out.grow (by repeat (first | with_reducible exact Ext.refl _ _ | with_reducible refine Ext.trans ?_ (by assumption) | with_reducible refine Ext.drew ?_ | with_reducible refine Ext.drewN ?_ _ | with_reducible refine Ext.alloc ?_ _ | with_reducible refine Ext.setNew ?_ (by simp; done) _ | with_reducible refine Ext.setNew ?_ (by simp; omega) _)), k + 1, by omega, by omega, by go_num, by rw [Hs.out, Hd.out, Hst.out]⟩
          case measure => simp [intOf]; omega
        · have b6' := bne1 h6
          have Hst := Lib.hid (hst.trans (if_pos h6))
          clear hst h6
          go_wp2_with fail
          (refine wp_region_later (by kernel_rfl) (by kernel_rfl) ?_; (repeat (first | go_big_quiet_step ((go_at_call 48; exact later_call (v := .int .i64 (cmpN a.kids[k] b.kids[k])) (Ih.out _ (List.getElem_mem hlt1) b.kids[k] _ _ _ Hgka.out Hgkb.out (Hkc.out.grow (later_grow _ _)) (Hkc2.out.grow (later_grow _ _))))) | quiet_step ((go_at_call 48; exact later_call (v := .int .i64 (cmpN a.kids[k] b.kids[k])) (Ih.out _ (List.getElem_mem hlt1) b.kids[k] _ _ _ Hgka.out Hgkb.out (Hkc.out.grow (later_grow _ _)) (Hkc2.out.grow (later_grow _ _))))))); refine wpQuiet_nil ?_; rintro _ ⟨x_w3, rfl⟩; have hg_w3 := later_grow wr x_w3; generalize later wr x_w3 = w3 at hg_w3 ⊢)
          go_wp2_with fail
          go_ret
          exact ⟨by rw [Hff.out, Hs.out, Hd.out, Hst.out]; rfl, (by repeat (first | with_reducible exact Ext.refl _ _ | with_reducible refine Ext.trans ?_ (by assumption) | with_reducible refine Ext.drew ?_ | with_reducible refine Ext.drewN ?_ _ | with_reducible refine Ext.alloc ?_ _ | with_reducible refine Ext.setNew ?_ (by simp; done) _ | with_reducible refine Ext.setNew ?_ (by simp; omega) _))⟩
    · have Hend := Lib.hid (cmpKs_end (decide (a.kind = 4)) a.names b.names a.kids b.kids k hk1 hk2 hlt)
      have p4 := HB1.out.cell 4 _ rfl
      have q4 := HB2.out.cell 4 _ rfl
      by_cases h1 : k < a.kids.length
      · have h2 : ¬ k < b.kids.length := by omega
        go_wp2_with fail
        refine (cmpCompare_ok _ _ _).mono ?_
        rintro e w' ⟨rfl, rfl⟩
        go_wp2_with fail
        go_ret
        exact ⟨by rw [Hff.out, Hs.out, Hend.out]; rfl, hg0⟩
      · go_wp2_with fail
        refine (cmpCompare_ok _ _ _).mono ?_
        rintro e w' ⟨rfl, rfl⟩
        go_wp2_with fail
        go_ret
        exact ⟨by rw [Hff.out, Hs.out, Hend.out]; rfl, hg0⟩
theorem compareValid_ok : ∀ a, CmpIOk a := Nd.ind' CmpIOk compareValid_of
end Go.Proofs.Ytiobnaielfeeaaa
namespace Go.Proofs.Ytiobnaielfeeaaa
open Go.RowKit
theorem sgnI_swap (a b : Int) : sgnI b a = - sgnI a b := by
  unfold sgnI
  by_cases h1 : a < b
  · rw [if_neg (by omega), if_pos h1, if_pos h1]; rfl
  · by_cases h2 : b < a
    · rw [if_pos h2, if_neg h1, if_pos h2]
    · rw [if_neg h2, if_neg h1, if_neg h1, if_neg h2]; rfl
theorem sgnT_swap (a b : ByteArray) : sgnT b a = - sgnT a b := by
  rcases bl_cases a b with ⟨h1, h2, _, _, h3⟩ | ⟨h1, h2, _, _, h3⟩ | h
  · simp [sgnT, lt, h1, h2]
  · simp [sgnT, lt, h1, h2]
  · subst h; simp [sgnT_refl]
def th (x y : Int) : Int := if x ≠ 0 then x else y
theorem th_neg (x y : Int) : th (-x) (-y) = - th x y := by unfold th; by_cases h : x = 0 <;> simp [h]
theorem th_zero {x y : Int} : th x y = 0 ↔ x = 0 ∧ y = 0 := by unfold th; by_cases h : x = 0 <;> simp [h]
theorem cmpN_th (a b : Nd) : cmpN a b = th (sgnI a.kind b.kind) (th (sgnI a.num b.num) (th (sgnT a.text b.text) (cmpKs (decide (a.kind = 4)) a.names b.names a.kids b.kids))) := by
  rw [cmpN_eq]; rfl
theorem cmpKs_th (m : Bool) (ns ms : List ByteArray) (k j : Nd) (ks js : List Nd) : cmpKs m ns ms (k :: ks) (j :: js) = th (if m = true then sgnT (ns.headD ⟨#[]⟩) (ms.headD ⟨#[]⟩) else 0) (th (cmpN k j) (cmpKs m ns.tail ms.tail ks js)) := by
  rw [cmpKs]
  unfold th
  cases m <;> simp
theorem cmpKs_nil (m : Bool) (ns ms : List ByteArray) (js : List Nd) : cmpKs m ns ms [] js = sgnI 0 js.length := by rw [cmpKs]
theorem cmpKs_nil' (m : Bool) (ns ms : List ByteArray) (ks : List Nd) : cmpKs m ns ms ks [] = sgnI ks.length 0 := by
  cases ks with
  | nil => rw [cmpKs]; rfl
  | cons k ks => rw [cmpKs]; simp
theorem cmpKs_swap (m : Bool) : ∀ (ks : List Nd), (∀ k ∈ ks, ∀ j, cmpN j k = - cmpN k j) → ∀ (js : List Nd) (ns ms : List ByteArray), cmpKs m ms ns js ks = - cmpKs m ns ms ks js
  | [], _, js, ns, ms => by rw [cmpKs_nil, cmpKs_nil', sgnI_swap]
  | k :: ks, ih, [], ns, ms => by rw [cmpKs_nil, cmpKs_nil', sgnI_swap]
  | k :: ks, ih, j :: js, ns, ms => by
    rw [cmpKs_th, cmpKs_th, ih k (by simp) j, cmpKs_swap m ks (fun k hk => ih k (by simp [hk])) js ns.tail ms.tail, th_neg]
    have : (if m = true then sgnT (ms.headD ⟨#[]⟩) (ns.headD ⟨#[]⟩) else 0) = - (if m = true then sgnT (ns.headD ⟨#[]⟩) (ms.headD ⟨#[]⟩) else 0) := by
      split
      · exact sgnT_swap _ _
      · rfl
    rw [this, th_neg]
theorem cmpN_swap : ∀ a b : Nd, cmpN b a = - cmpN a b := Nd.ind' _ (fun a ih b => by
  rw [cmpN_th b a, cmpN_th a b, sgnI_swap a.kind b.kind]
  by_cases hk : a.kind = b.kind
  · rw [sgnI_swap a.num b.num, sgnT_swap a.text b.text, hk, cmpKs_swap _ a.kids ih, th_neg, th_neg, th_neg]
  · have hz : sgnI a.kind b.kind ≠ 0 := fun h => hk (sgnI_zero.1 h)
    have hz' : - sgnI a.kind b.kind ≠ 0 := by omega
    unfold th
    rw [if_pos hz, if_pos hz'])
theorem cmpN_refl (a : Nd) : cmpN a a = 0 := by have := cmpN_swap a a; omega
theorem cmpKs_zero (m : Bool) : ∀ (ks : List Nd), (∀ k ∈ ks, ∀ j, Good k → Good j → cmpN k j = 0 → k = j) → ∀ (js : List Nd) (ns ms : List ByteArray), (∀ k ∈ ks, Good k) → (∀ j ∈ js, Good j) → cmpKs m ns ms ks js = 0 → ks = js ∧ (m = true → ns.length = ks.length → ms.length = js.length → ns = ms)
  | [], _, js, ns, ms, _, _, h => by
    rw [cmpKs_nil, sgnI_zero] at h
    have : js = [] := List.length_eq_zero_iff.1 (by omega)
    subst this
    exact ⟨rfl, fun _ h1 h2 => by rw [List.length_eq_zero_iff.1 h1, List.length_eq_zero_iff.1 h2]⟩
  | k :: ks, ih, [], ns, ms, _, _, h => by
    rw [cmpKs_nil', sgnI_zero] at h
    simp at h; omega
  | k :: ks, ih, j :: js, ns, ms, h1, h2, h => by
    rw [cmpKs_th, th_zero, th_zero] at h
    obtain ⟨h3, h4, h5⟩ := h
    obtain ⟨q1, q2⟩ := cmpKs_zero m ks (fun k hk => ih k (by simp [hk])) js ns.tail ms.tail (fun k hk => h1 k (by simp [hk])) (fun j hj => h2 j (by simp [hj])) h5
    have q0 := ih k (by simp) j (h1 k (by simp)) (h2 j (by simp)) h4
    subst q0 q1
    refine ⟨rfl, fun hm h6 h7 => ?_⟩
    rw [if_pos hm] at h3
    cases ns with
    | nil => simp at h6
    | cons n ns =>
      cases ms with
      | nil => simp at h7
      | cons q ms =>
        simp only [List.headD_cons, sgnT_zero] at h3
        have := q2 hm (by simpa using h6) (by simpa using h7)
        simp only [List.tail_cons] at this
        rw [h3, this]
theorem Good.names {n : Nd} (h : Good n) (h4 : n.kind ≠ 4) : n.names = [] := by
  have hp := h.parts
  unfold partsB at hp
  simp only [Bool.and_eq_true, Bool.or_eq_true, decide_eq_true_eq] at hp
  rcases hp.1.2 with h | h
  · exact absurd h h4
  · exact List.length_eq_zero_iff.1 (by simpa using h)
theorem Good.mapN {n : Nd} (h : Good n) (h4 : n.kind = 4) : n.names.length = n.kids.length := by
  have hp := h.parts
  unfold partsB at hp
  simp only [Bool.and_eq_true] at hp
  have hp := hp.2
  rw [h4] at hp
  simp at hp
  exact hp.2.symm
theorem cmpN_zero : ∀ a b : Nd, Good a → Good b → cmpN a b = 0 → a = b := Nd.ind' _ (fun a ih b ha hb h => by
  rw [cmpN_th, th_zero, th_zero, th_zero] at h
  obtain ⟨h1, h2, h3, h4⟩ := h
  rw [sgnI_zero] at h1 h2
  rw [sgnT_zero] at h3
  obtain ⟨h5, h6⟩ := cmpKs_zero _ a.kids ih b.kids a.names b.names (fun k hk => ha.kid hk) (fun k hk => hb.kid hk) h4
  have h7 : a.names = b.names := by
    by_cases hk : a.kind = 4
    · exact h6 (by simpa using hk) (ha.mapN hk) (hb.mapN (by rw [← h1]; exact hk))
    · rw [ha.names hk, hb.names (by rw [← h1]; exact hk)]
  cases a; cases b
  simp only at h1 h2 h3 h5 h7
  subst h1 h2 h3 h5 h7
  rfl)
def T3 (x y z : Int) : Prop := x ≤ 0 → y ≤ 0 → z ≤ 0 ∧ (z = 0 → x = 0 ∧ y = 0)
theorem T3.th {x y z x' y' z' : Int} (h : T3 x y z) (h' : x = 0 → y = 0 → z = 0 → T3 x' y' z') : T3 (th x x') (th y y') (th z z') := by
  unfold T3 Go.Proofs.Ytiobnaielfeeaaa.th at *
  intro h1 h2
  have hx : x ≤ 0 := by split at h1 <;> omega
  have hy : y ≤ 0 := by split at h2 <;> omega
  obtain ⟨hz, hzz⟩ := h hx hy
  by_cases h0 : z = 0
  · obtain ⟨hx0, hy0⟩ := hzz h0
    rw [if_neg (by simpa using hx0)] at h1
    rw [if_neg (by simpa using hy0)] at h2
    rw [if_neg (by simpa using h0), if_neg (by simpa using hx0), if_neg (by simpa using hy0)]
    exact h' hx0 hy0 h0 h1 h2
  · rw [if_pos h0]
    exact ⟨hz, fun h => absurd h h0⟩
theorem T3_I (a b c : Int) : T3 (sgnI a b) (sgnI b c) (sgnI a c) := by
  intro h1 h2
  have k1 : a ≤ b := by unfold sgnI at h1; split at h1 <;> (try split at h1) <;> omega
  have k2 : b ≤ c := by unfold sgnI at h2; split at h2 <;> (try split at h2) <;> omega
  refine ⟨by unfold sgnI; split <;> (try split) <;> omega, fun h => ?_⟩
  rw [sgnI_zero] at h ⊢
  rw [sgnI_zero]
  omega
theorem sgnT_le {a b : ByteArray} : sgnT a b ≤ 0 ↔ (a = b ∨ lt a b = true) := by
  rcases bl_cases a b with ⟨h1, h2, _, _, h3⟩ | ⟨h1, h2, _, _, h3⟩ | h
  · simp [sgnT, lt, h1]
  · simp [sgnT, lt, h1, h2, h3]
  · subst h; simp [sgnT_refl]
theorem T3_T (a b c : ByteArray) : T3 (sgnT a b) (sgnT b c) (sgnT a c) := by
  intro h1 h2
  rw [sgnT_le] at h1 h2
  rw [sgnT_le, sgnT_zero, sgnT_zero, sgnT_zero]
  rcases h1 with rfl | h1
  · rcases h2 with rfl | h2
    · exact ⟨.inl rfl, fun _ => ⟨rfl, rfl⟩⟩
    · exact ⟨.inr h2, fun e => by subst e; exact absurd h2 (by rw [lt_irr]; simp)⟩
  · rcases h2 with rfl | h2
    · exact ⟨.inr h1, fun e => by subst e; exact absurd h1 (by rw [lt_irr]; simp)⟩
    · have h3 : lt a c = true := bl_trans _ _ _ h1 h2
      exact ⟨.inr h3, fun e => by subst e; exact absurd h3 (by rw [lt_irr]; simp)⟩
theorem T3_z : T3 0 0 0 := fun _ _ => ⟨by omega, fun _ => ⟨rfl, rfl⟩⟩
theorem sgnI_0len {l : List Nd} (h : l ≠ []) : sgnI 0 l.length = -1 := by
  have : 0 < l.length := List.length_pos_iff.2 h
  unfold sgnI; rw [if_pos (by omega)]
theorem sgnI_len0 {l : List Nd} (h : l ≠ []) : sgnI l.length 0 = 1 := by
  have : 0 < l.length := List.length_pos_iff.2 h
  unfold sgnI; rw [if_neg (by omega), if_pos (by omega)]
theorem cmpKs_tri (m : Bool) : ∀ (ks : List Nd), (∀ k ∈ ks, ∀ j l, T3 (cmpN k j) (cmpN j l) (cmpN k l)) → ∀ (js ls : List Nd) (ns ms os : List ByteArray), T3 (cmpKs m ns ms ks js) (cmpKs m ms os js ls) (cmpKs m ns os ks ls)
  | [], _, [], ls, ns, ms, os => by
    rw [cmpKs_nil, cmpKs_nil, cmpKs_nil]
    exact T3_I _ _ _
  | [], _, j :: js, [], ns, ms, os => by
    rw [cmpKs_nil' m ms os, sgnI_len0 (by simp)]
    intro _ h; omega
  | [], _, j :: js, l :: ls, ns, ms, os => by
    rw [cmpKs_nil, cmpKs_nil, sgnI_0len (by simp), sgnI_0len (by simp)]
    intro _ _; exact ⟨by omega, fun h => by omega⟩
  | k :: ks, _, [], ls, ns, ms, os => by
    rw [cmpKs_nil' m ns ms, sgnI_len0 (by simp)]
    intro h; omega
  | k :: ks, _, j :: js, [], ns, ms, os => by
    rw [cmpKs_nil' m ms os, sgnI_len0 (by simp)]
    intro _ h; omega
  | k :: ks, ih, j :: js, l :: ls, ns, ms, os => by
    rw [cmpKs_th, cmpKs_th, cmpKs_th]
    refine T3.th ?_ (fun _ _ _ => T3.th (ih k (by simp) j l) (fun _ _ _ => cmpKs_tri m ks (fun k hk => ih k (by simp [hk])) js ls _ _ _))
    cases m
    · exact T3_z
    · exact T3_T _ _ _
theorem cmpN_tri : ∀ a b c : Nd, T3 (cmpN a b) (cmpN b c) (cmpN a c) := Nd.ind' _ (fun a ih b c => by
  rw [cmpN_th a b, cmpN_th b c, cmpN_th a c]
  refine T3.th (T3_I _ _ _) (fun h1 h2 _ => T3.th (T3_I _ _ _) (fun _ _ _ => T3.th (T3_T _ _ _) (fun _ _ _ => ?_)))
  rw [sgnI_zero] at h1 h2
  rw [← h1]
  exact cmpKs_tri _ a.kids ih _ _ _ _ _)
def cmp2 (a b : Nd) : Int := if validB a && validB b then cmpN a b else 2
theorem cmpN_range (a b : Nd) : cmpN a b = -1 ∨ cmpN a b = 0 ∨ cmpN a b = 1 := by
  have hI : ∀ x y : Int, sgnI x y = -1 ∨ sgnI x y = 0 ∨ sgnI x y = 1 := fun x y => by unfold sgnI; split <;> (try split) <;> omega
  have hT : ∀ x y : ByteArray, sgnT x y = -1 ∨ sgnT x y = 0 ∨ sgnT x y = 1 := fun x y => by unfold sgnT; split <;> (try split) <;> omega
  have ht : ∀ x y : Int, (x = -1 ∨ x = 0 ∨ x = 1) → (y = -1 ∨ y = 0 ∨ y = 1) → (th x y = -1 ∨ th x y = 0 ∨ th x y = 1) := fun x y h1 h2 => by unfold th; split <;> omega
  revert b
  refine Nd.ind' (fun a => ∀ b, cmpN a b = -1 ∨ cmpN a b = 0 ∨ cmpN a b = 1) (fun a ih b => ?_) a
  rw [cmpN_th]
  refine ht _ _ (hI _ _) (ht _ _ (hI _ _) (ht _ _ (hT _ _) ?_))
  generalize decide (a.kind = 4) = m
  generalize a.names = ns
  generalize b.names = ms
  generalize hks : a.kids = ks at ih
  clear hks
  generalize b.kids = js
  induction ks generalizing js ns ms with
  | nil => rw [cmpKs_nil]; exact hI _ _
  | cons k ks ihk =>
    cases js with
    | nil => rw [cmpKs_nil']; exact hI _ _
    | cons j js =>
      rw [cmpKs_th]
      refine ht _ _ ?_ (ht _ _ (ih k (by simp) j) (ihk _ _ (fun k hk => ih k (by simp [hk])) _))
      split
      · exact hT _ _
      · exact .inr (.inl rfl)
end Go.Proofs.Ytiobnaielfeeaaa
namespace Go.Proofs.Ytiobnaielfeeaaa
open Go.RowKit
theorem compare_of (a : Nd) (ih : ∀ k ∈ a.kids, CmpSOk k) : CmpSOk a := by
  intro b v u w hga hgb hv hu
  obtain ⟨na, nc, ka, kc, rfl, hc⟩ := hv
  obtain ⟨na2, nc2, ka2, kc2, rfl, hc2⟩ := hu
  obtain ⟨_, hns, hks⟩ := hc.parts
  obtain ⟨_, hns2, hks2⟩ := hc2.parts
  have l1 : a.kids.length ≤ 6 := hga.kids6
  have l2 : b.kids.length ≤ 6 := hgb.kids6
  have Hns := Lib.hid hns
  have Hks := Lib.hid hks
  have Hns2 := Lib.hid hns2
  have Hks2 := Lib.hid hks2
  have Hga := Lib.hid hga
  have Hgb := Lib.hid hgb
  have Ih := Lib.hid ih
  have Hf := Lib.hid (cmpN_eq a b)
  clear hc hc2 hns hks hns2 hks2 hga hgb ih
  unfold nodeV
  by_cases h1 : sgnI a.kind b.kind = 0
  rotate_left
  · have b1 : (a.kind != b.kind) = true := by simpa using fun e => h1 (sgnI_zero.2 e)
    have Hff : Hid (cmpN a b = sgnI a.kind b.kind) := Lib.hid (by rw [Hf.out, if_pos h1])
    clear h1
    go_enter Try.func49, Try.ntmps49
    go_wp2_with fail
    refine (order_ok _ _ _).mono ?_
    rintro e w' ⟨rfl, rfl⟩
    go_wp2_with fail
    go_ret
    exact ⟨by simp [Hff.out], (by repeat (first | with_reducible exact Ext.refl _ _ | with_reducible refine Ext.trans ?_ (by assumption) | with_reducible refine Ext.drew ?_ | with_reducible refine Ext.drewN ?_ _ | with_reducible refine Ext.alloc ?_ _ | with_reducible refine Ext.setNew ?_ (by simp; done) _ | with_reducible refine Ext.setNew ?_ (by simp; omega) _))⟩
  have b1 : (a.kind != b.kind) = false := by simpa using sgnI_zero.1 h1
  by_cases h2 : sgnI a.num b.num = 0
  rotate_left
  · have b2 : (a.num != b.num) = true := by simpa using fun e => h2 (sgnI_zero.2 e)
    have Hff : Hid (cmpN a b = sgnI a.num b.num) := Lib.hid (by rw [Hf.out, if_neg (by simpa using h1), if_pos h2])
    clear h1 h2
    go_enter Try.func49, Try.ntmps49
    go_wp2_with fail
    refine (order_ok _ _ _).mono ?_
    rintro e w' ⟨rfl, rfl⟩
    go_wp2_with fail
    go_ret
    exact ⟨by simp [Hff.out], (by repeat (first | with_reducible exact Ext.refl _ _ | with_reducible refine Ext.trans ?_ (by assumption) | with_reducible refine Ext.drew ?_ | with_reducible refine Ext.drewN ?_ _ | with_reducible refine Ext.alloc ?_ _ | with_reducible refine Ext.setNew ?_ (by simp; done) _ | with_reducible refine Ext.setNew ?_ (by simp; omega) _))⟩
  have b2 : (a.num != b.num) = false := by simpa using sgnI_zero.1 h2
  by_cases h3 : sgnT a.text b.text = 0
  rotate_left
  · have b3 : (a.text.toList == b.text.toList) = false := by rw [beq_toList]; simpa using fun e => h3 (sgnT_zero.2 e)
    have Hff : Hid (cmpN a b = sgnT a.text b.text) := Lib.hid (by rw [Hf.out, if_neg (by simpa using h1), if_neg (by simpa using h2), if_pos h3])
    clear h1 h2 h3
    go_enter Try.func49, Try.ntmps49
    go_wp2_with fail
    refine (orderText_ok _ _ _).mono ?_
    rintro e w' ⟨rfl, rfl⟩
    go_wp2_with fail
    go_ret
    exact ⟨by simp [Hff.out], (by repeat (first | with_reducible exact Ext.refl _ _ | with_reducible refine Ext.trans ?_ (by assumption) | with_reducible refine Ext.drew ?_ | with_reducible refine Ext.drewN ?_ _ | with_reducible refine Ext.alloc ?_ _ | with_reducible refine Ext.setNew ?_ (by simp; done) _ | with_reducible refine Ext.setNew ?_ (by simp; omega) _))⟩
  have b3 : (a.text.toList == b.text.toList) = true := by rw [beq_toList]; simpa using sgnT_zero.1 h3
  have hkk : a.kind = b.kind := sgnI_zero.1 h1
  have Hkk := Lib.hid hkk
  have Hff : Hid (cmpN a b = cmpKs (decide (a.kind = 4)) a.names b.names a.kids b.kids) := Lib.hid (by rw [Hf.out, if_neg (by simpa using h1), if_neg (by simpa using h2), if_neg (by simpa using h3)])
  clear h1 h2 h3 hkk
  go_enter Try.func49, Try.ntmps49
  go_wp2_with fail
  clear b1 b2 b3
  go_loopw [4, 5] (fun t4 i wr => t4 = .int .i64 0 ∧ Grow w wr ∧ BoxN wr w.heap.size (nodeL a na nc ka kc) ∧ BoxN wr (w.heap.size + 1) (nodeL b na2 nc2 ka2 kc2) ∧ ∃ k : Nat, k ≤ a.kids.length ∧ k ≤ b.kids.length ∧ i = .int .i64 k ∧ cmpKs (decide (a.kind = 4)) a.names b.names a.kids b.kids = cmpKs (decide (a.kind = 4)) (a.names.drop k) (b.names.drop k) (a.kids.drop k) (b.kids.drop k)) (fun _ i _ => a.kids.length - (intOf i).toNat)
  case atStart => exact ⟨rfl, (by repeat (first | with_reducible exact Ext.refl _ _ | with_reducible refine Ext.trans ?_ (by assumption) | with_reducible refine Ext.drew ?_ | with_reducible refine Ext.drewN ?_ _ | with_reducible refine Ext.alloc ?_ _ | with_reducible refine Ext.setNew ?_ (by simp; done) _ | with_reducible refine Ext.setNew ?_ (by simp; omega) _)), (BoxN.new w (nodeL a na nc ka kc) _).grow ((Ext.refl nil _).alloc _), BoxN.new1 w _ (nodeL b na2 nc2 ka2 kc2) _, 0, Nat.zero_le _, Nat.zero_le _, rfl, rfl⟩
  case round =>
    obtain ⟨rfl, hg0, B1, B2, k, hk1, hk2, rfl, hs⟩ := hrel
    have Hs := Lib.hid hs
    clear hs
    have HB1 := Lib.hid B1
    have HB2 := Lib.hid B2
    clear B1 B2
    by_cases hlt : k < a.kids.length ∧ k < b.kids.length
    · obtain ⟨hlt1, hlt2⟩ := hlt
      rcases Hks.out.2.2 with hh | ⟨bk, ok, rfl, _, hkr⟩
      · rw [hh] at hlt1; simp at hlt1
      rcases Hks2.out.2.2 with hh | ⟨bk2, ok2, rfl, _, hkr2⟩
      · rw [hh] at hlt2; simp at hlt2
      obtain ⟨na', nc', ka', kc', c0, c1, c2, c3, c4, hkc⟩ := (hkr.ext hg0 (fun _ _ h => h) (fun h => h)).get k hlt1
      obtain ⟨na3, nc3, ka3, kc3, d0, d1, d2, d3, d4, hkc2⟩ := (hkr2.ext hg0 (fun _ _ h => h) (fun h => h)).get k hlt2
      have Hkc : Hid (NodeR wr any a.kids[k] (nodeV a.kids[k] na' nc' ka' kc')) := Lib.hid ⟨_, _, _, _, rfl, hkc⟩
      have Hkc2 : Hid (NodeR wr any b.kids[k] (nodeV b.kids[k] na3 nc3 ka3 kc3)) := Lib.hid ⟨_, _, _, _, rfl, hkc2⟩
      have Hgka := Lib.hid (Hga.out.kid (List.getElem_mem hlt1))
      have Hgkb := Lib.hid (Hgb.out.kid (List.getElem_mem hlt2))
      clear hkr hkr2 hkc hkc2
      have p3 := HB1.out.cell 3 _ rfl
      have p4 := HB1.out.cell 4 _ rfl
      have p0 := HB1.out.cell 0 _ rfl
      have q3 := HB2.out.cell 3 _ rfl
      have q4 := HB2.out.cell 4 _ rfl
      by_cases h4 : a.kind = 4
      · have e1 := (Hga.out.map h4).2
        have e2 := (Hgb.out.map (by rw [← Hkk.out]; exact h4)).2
        have n1 : k < a.names.length := by omega
        have n2 : k < b.names.length := by omega
        have b4 : (a.kind == 4) = true := by simp [h4]
        have hst := cmpKs_map (ns := a.names) (ms := b.names) hlt1 hlt2 n1 n2
        rcases ((Hns.out).grow hg0).2.2.2 with hh | ⟨b5, o5, rfl, _, hc5⟩
        · rw [hh] at n1; simp at n1
        rcases ((Hns2.out).grow hg0).2.2.2 with hh | ⟨b6, o6, rfl, _, hc6⟩
        · rw [hh] at n2; simp at n2
        have x1 := hc5 k n1
        have x2 := hc6 k n2
        clear hc5 hc6 e1 e2
        have Hd : Hid (decide (a.kind = 4) = true) := Lib.hid (by simp [h4])
        clear h4
        by_cases h5 : sgnT a.names[k] b.names[k] = 0
        · have b5' : (a.names[k].toList == b.names[k].toList) = true := by rw [beq_toList]; simpa using sgnT_zero.1 h5
          have hst' := hst.trans (if_neg (by simpa using h5))
          clear hst h5
          by_cases h6 : cmpN a.kids[k] b.kids[k] = 0
          · have b6' := bne0 h6
            have Hst := Lib.hid (hst'.trans (if_neg (by simpa using h6)))
            clear hst' h6
            go_wp2_with fail
            (refine wp_region_later (by kernel_rfl) (by kernel_rfl) ?_; (repeat (first | go_big_quiet_step (fail) | quiet_step (fail))); refine wpQuiet_nil ?_; rintro _ ⟨x_w2, rfl⟩; have hg_w2 := later_grow wr x_w2; generalize later wr x_w2 = w2 at hg_w2 ⊢)
            (replace p0 := hg_w2.some p0; replace p3 := hg_w2.some p3; replace p4 := hg_w2.some p4; replace q3 := hg_w2.some q3; replace q4 := hg_w2.some q4; replace c0 := hg_w2.some c0; replace c1 := hg_w2.some c1; replace c2 := hg_w2.some c2; replace c3 := hg_w2.some c3; replace c4 := hg_w2.some c4; replace d0 := hg_w2.some d0; replace d1 := hg_w2.some d1; replace d2 := hg_w2.some d2; replace d3 := hg_w2.some d3; replace d4 := hg_w2.some d4)
            go_wp2_with fail
            (refine wp_region_later (by kernel_rfl) (by kernel_rfl) ?_; (repeat (first | go_big_quiet_step ((go_at_call 49; exact later_call (v := .int .i64 (cmpN a.kids[k] b.kids[k])) (Ih.out _ (List.getElem_mem hlt1) b.kids[k] _ _ _ Hgka.out Hgkb.out (Hkc.out.grow (hg_w2.trans (later_grow _ _))) (Hkc2.out.grow (hg_w2.trans (later_grow _ _)))))) | quiet_step ((go_at_call 49; exact later_call (v := .int .i64 (cmpN a.kids[k] b.kids[k])) (Ih.out _ (List.getElem_mem hlt1) b.kids[k] _ _ _ Hgka.out Hgkb.out (Hkc.out.grow (hg_w2.trans (later_grow _ _))) (Hkc2.out.grow (hg_w2.trans (later_grow _ _)))))))); refine wpQuiet_nil ?_; rintro _ ⟨x_w3, rfl⟩; have hg_w3 := later_grow w2 x_w3; generalize later w2 x_w3 = w3 at hg_w3 ⊢)
            go_wp2_with fail
            go_roundw
            case rel => exact ⟨rfl, (by repeat (first | with_reducible exact Ext.refl _ _ | with_reducible refine Ext.trans ?_ (by assumption) | with_reducible refine Ext.drew ?_ | with_reducible refine Ext.drewN ?_ _ | with_reducible refine Ext.alloc ?_ _ | with_reducible refine Ext.setNew ?_ (by simp; done) _ | with_reducible refine Ext.setNew ?_ (by simp; omega) _)), HB1.out.grow (by repeat (first | with_reducible exact Ext.refl _ _ | with_reducible refine Ext.trans ?_ (by assumption) | with_reducible refine Ext.drew ?_ | with_reducible refine Ext.drewN ?_ _ | with_reducible refine Ext.alloc ?_ _ | with_reducible refine Ext.setNew ?_ (by simp; done) _ | with_reducible refine Ext.setNew ?_ (by simp; omega) _)), HB2.out.grow (by repeat (first | with_reducible exact Ext.refl _ _ | with_reducible refine Ext.trans ?_ (by assumption) | with_reducible refine Ext.drew ?_ | with_reducible refine Ext.drewN ?_ _ | with_reducible refine Ext.alloc ?_ _ | with_reducible refine Ext.setNew ?_ (by simp; done) _ | with_reducible refine Ext.setNew ?_ (by simp; omega) _)), k + 1, by omega, by omega, by go_num, by rw [Hs.out, Hd.out, Hst.out]⟩
            case measure => simp [intOf]; omega
          · have b6' := bne1 h6
            have Hst := Lib.hid (hst'.trans (if_pos h6))
            clear hst' h6
            go_wp2_with fail
            (refine wp_region_later (by kernel_rfl) (by kernel_rfl) ?_; (repeat (first | go_big_quiet_step (fail) | quiet_step (fail))); refine wpQuiet_nil ?_; rintro _ ⟨x_w2, rfl⟩; have hg_w2 := later_grow wr x_w2; generalize later wr x_w2 = w2 at hg_w2 ⊢)
            (replace p0 := hg_w2.some p0; replace p3 := hg_w2.some p3; replace p4 := hg_w2.some p4; replace q3 := hg_w2.some q3; replace q4 := hg_w2.some q4; replace c0 := hg_w2.some c0; replace c1 := hg_w2.some c1; replace c2 := hg_w2.some c2; replace c3 := hg_w2.some c3; replace c4 := hg_w2.some c4; replace d0 := hg_w2.some d0; replace d1 := hg_w2.some d1; replace d2 := hg_w2.some d2; replace d3 := hg_w2.some d3; replace d4 := hg_w2.some d4)
            go_wp2_with fail
            (refine wp_region_later (by kernel_rfl) (by kernel_rfl) ?_; (repeat (first | go_big_quiet_step ((go_at_call 49; exact later_call (v := .int .i64 (cmpN a.kids[k] b.kids[k])) (Ih.out _ (List.getElem_mem hlt1) b.kids[k] _ _ _ Hgka.out Hgkb.out (Hkc.out.grow (hg_w2.trans (later_grow _ _))) (Hkc2.out.grow (hg_w2.trans (later_grow _ _)))))) | quiet_step ((go_at_call 49; exact later_call (v := .int .i64 (cmpN a.kids[k] b.kids[k])) (Ih.out _ (List.getElem_mem hlt1) b.kids[k] _ _ _ Hgka.out Hgkb.out (Hkc.out.grow (hg_w2.trans (later_grow _ _))) (Hkc2.out.grow (hg_w2.trans (later_grow _ _)))))))); refine wpQuiet_nil ?_; rintro _ ⟨x_w3, rfl⟩; have hg_w3 := later_grow w2 x_w3; generalize later w2 x_w3 = w3 at hg_w3 ⊢)
            go_wp2_with fail
            go_ret
            exact ⟨by rw [Hff.out, Hs.out, Hd.out, Hst.out]; rfl, (by repeat (first | with_reducible exact Ext.refl _ _ | with_reducible refine Ext.trans ?_ (by assumption) | with_reducible refine Ext.drew ?_ | with_reducible refine Ext.drewN ?_ _ | with_reducible refine Ext.alloc ?_ _ | with_reducible refine Ext.setNew ?_ (by simp; done) _ | with_reducible refine Ext.setNew ?_ (by simp; omega) _))⟩
        · have b5' : (a.names[k].toList == b.names[k].toList) = false := by rw [beq_toList]; simpa using fun e => h5 (sgnT_zero.2 e)
          have Hst := Lib.hid (hst.trans (if_pos h5))
          clear hst h5
          go_wp2_with fail
          (refine wp_region_later (by kernel_rfl) (by kernel_rfl) ?_; (repeat (first | go_big_quiet_step (fail) | quiet_step (fail))); refine wpQuiet_nil ?_; rintro _ ⟨x_w2, rfl⟩; have hg_w2 := later_grow wr x_w2; generalize later wr x_w2 = w2 at hg_w2 ⊢)
          (replace p0 := hg_w2.some p0; replace p3 := hg_w2.some p3; replace p4 := hg_w2.some p4; replace q3 := hg_w2.some q3; replace q4 := hg_w2.some q4; replace c0 := hg_w2.some c0; replace c1 := hg_w2.some c1; replace c2 := hg_w2.some c2; replace c3 := hg_w2.some c3; replace c4 := hg_w2.some c4; replace d0 := hg_w2.some d0; replace d1 := hg_w2.some d1; replace d2 := hg_w2.some d2; replace d3 := hg_w2.some d3; replace d4 := hg_w2.some d4; replace x1 := hg_w2.some x1; replace x2 := hg_w2.some x2)
          go_wp2_with fail
          (refine wp_region_later (by kernel_rfl) (by kernel_rfl) ?_; (repeat (first | go_big_quiet_step ((go_at_call 82; exact later_call_same (orderText_ok _ _ _))) | quiet_step ((go_at_call 82; exact later_call_same (orderText_ok _ _ _))))); refine wpQuiet_nil ?_; rintro _ ⟨x_w3, rfl⟩; have hg_w3 := later_grow w2 x_w3; generalize later w2 x_w3 = w3 at hg_w3 ⊢)
          go_wp2_with fail
          go_ret
          exact ⟨by rw [Hff.out, Hs.out, Hd.out, Hst.out]; rfl, (by repeat (first | with_reducible exact Ext.refl _ _ | with_reducible refine Ext.trans ?_ (by assumption) | with_reducible refine Ext.drew ?_ | with_reducible refine Ext.drewN ?_ _ | with_reducible refine Ext.alloc ?_ _ | with_reducible refine Ext.setNew ?_ (by simp; done) _ | with_reducible refine Ext.setNew ?_ (by simp; omega) _))⟩
      · have b4 : (a.kind == 4) = false := by simp [h4]
        have hst := cmpKs_list (ns := a.names) (ms := b.names) hlt1 hlt2
        have Hd : Hid (decide (a.kind = 4) = false) := Lib.hid (by simp [h4])
        clear h4
        by_cases h6 : cmpN a.kids[k] b.kids[k] = 0
        · have b6' := bne0 h6
          have Hst := Lib.hid (hst.trans (if_neg (by simpa using h6)))
          clear hst h6
          go_wp2_with fail
          (refine wp_region_later (by kernel_rfl) (by kernel_rfl) ?_; (repeat (first | go_big_quiet_step (fail) | quiet_step (fail))); refine wpQuiet_nil ?_; rintro _ ⟨x_w2, rfl⟩; have hg_w2 := later_grow wr x_w2; generalize later wr x_w2 = w2 at hg_w2 ⊢)
          (replace p0 := hg_w2.some p0; replace p3 := hg_w2.some p3; replace p4 := hg_w2.some p4; replace q3 := hg_w2.some q3; replace q4 := hg_w2.some q4; replace c0 := hg_w2.some c0; replace c1 := hg_w2.some c1; replace c2 := hg_w2.some c2; replace c3 := hg_w2.some c3; replace c4 := hg_w2.some c4; replace d0 := hg_w2.some d0; replace d1 := hg_w2.some d1; replace d2 := hg_w2.some d2; replace d3 := hg_w2.some d3; replace d4 := hg_w2.some d4)
          go_wp2_with fail
          (refine wp_region_later (by kernel_rfl) (by kernel_rfl) ?_; (repeat (first | go_big_quiet_step ((go_at_call 49; exact later_call (v := .int .i64 (cmpN a.kids[k] b.kids[k])) (Ih.out _ (List.getElem_mem hlt1) b.kids[k] _ _ _ Hgka.out Hgkb.out (Hkc.out.grow (hg_w2.trans (later_grow _ _))) (Hkc2.out.grow (hg_w2.trans (later_grow _ _)))))) | quiet_step ((go_at_call 49; exact later_call (v := .int .i64 (cmpN a.kids[k] b.kids[k])) (Ih.out _ (List.getElem_mem hlt1) b.kids[k] _ _ _ Hgka.out Hgkb.out (Hkc.out.grow (hg_w2.trans (later_grow _ _))) (Hkc2.out.grow (hg_w2.trans (later_grow _ _)))))))); refine wpQuiet_nil ?_; rintro _ ⟨x_w3, rfl⟩; have hg_w3 := later_grow w2 x_w3; generalize later w2 x_w3 = w3 at hg_w3 ⊢)
          go_wp2_with fail
          go_roundw
          case rel => exact ⟨rfl, (by repeat (first | with_reducible exact Ext.refl _ _ | with_reducible refine Ext.trans ?_ (by assumption) | with_reducible refine Ext.drew ?_ | with_reducible refine Ext.drewN ?_ _ | with_reducible refine Ext.alloc ?_ _ | with_reducible refine Ext.setNew ?_ (by simp; done) _ | with_reducible refine Ext.setNew ?_ (by simp; omega) _)), HB1.out.grow (by repeat (first | with_reducible exact Ext.refl _ _ | with_reducible refine Ext.trans ?_ (by assumption) | with_reducible refine Ext.drew ?_ | with_reducible refine Ext.drewN ?_ _ | with_reducible refine Ext.alloc ?_ _ | with_reducible refine Ext.setNew ?_ (by simp; done) _ | with_reducible refine Ext.setNew ?_ (by simp; omega) _)), HB2.out.grow (by repeat (first | with_reducible exact Ext.refl _ _ | with_reducible refine Ext.trans ?_ (by assumption) | with_reducible refine Ext.drew ?_ | with_reducible refine Ext.drewN ?_ _ | with_reducible refine Ext.alloc ?_ _ | with_reducible refine Ext.setNew ?_ (by simp; done) _ | with_reducible refine Ext.setNew ?_ (by simp; omega) _)), k + 1, by omega, by omega, by go_num, by rw [Hs.out, Hd.out, Hst.out]⟩
          case measure => simp [intOf]; omega
        · have b6' := bne1 h6
          have Hst := Lib.hid (hst.trans (if_pos h6))
          clear hst h6
          go_wp2_with fail
          (refine wp_region_later (by kernel_rfl) (by kernel_rfl) ?_; (repeat (first | go_big_quiet_step (fail) | quiet_step (fail))); refine wpQuiet_nil ?_; rintro _ ⟨x_w2, rfl⟩; have hg_w2 := later_grow wr x_w2; generalize later wr x_w2 = w2 at hg_w2 ⊢)
          (replace p0 := hg_w2.some p0; replace p3 := hg_w2.some p3; replace p4 := hg_w2.some p4; replace q3 := hg_w2.some q3; replace q4 := hg_w2.some q4; replace c0 := hg_w2.some c0; replace c1 := hg_w2.some c1; replace c2 := hg_w2.some c2; replace c3 := hg_w2.some c3; replace c4 := hg_w2.some c4; replace d0 := hg_w2.some d0; replace d1 := hg_w2.some d1; replace d2 := hg_w2.some d2; replace d3 := hg_w2.some d3; replace d4 := hg_w2.some d4)
          go_wp2_with fail
          (refine wp_region_later (by kernel_rfl) (by kernel_rfl) ?_; (repeat (first | go_big_quiet_step ((go_at_call 49; exact later_call (v := .int .i64 (cmpN a.kids[k] b.kids[k])) (Ih.out _ (List.getElem_mem hlt1) b.kids[k] _ _ _ Hgka.out Hgkb.out (Hkc.out.grow (hg_w2.trans (later_grow _ _))) (Hkc2.out.grow (hg_w2.trans (later_grow _ _)))))) | quiet_step ((go_at_call 49; exact later_call (v := .int .i64 (cmpN a.kids[k] b.kids[k])) (Ih.out _ (List.getElem_mem hlt1) b.kids[k] _ _ _ Hgka.out Hgkb.out (Hkc.out.grow (hg_w2.trans (later_grow _ _))) (Hkc2.out.grow (hg_w2.trans (later_grow _ _)))))))); refine wpQuiet_nil ?_; rintro _ ⟨x_w3, rfl⟩; have hg_w3 := later_grow w2 x_w3; generalize later w2 x_w3 = w3 at hg_w3 ⊢)
          go_wp2_with fail
          go_ret
          exact ⟨by rw [Hff.out, Hs.out, Hd.out, Hst.out]; rfl, (by repeat (first | with_reducible exact Ext.refl _ _ | with_reducible refine Ext.trans ?_ (by assumption) | with_reducible refine Ext.drew ?_ | with_reducible refine Ext.drewN ?_ _ | with_reducible refine Ext.alloc ?_ _ | with_reducible refine Ext.setNew ?_ (by simp; done) _ | with_reducible refine Ext.setNew ?_ (by simp; omega) _))⟩
    · have Hend := Lib.hid (cmpKs_end (decide (a.kind = 4)) a.names b.names a.kids b.kids k hk1 hk2 hlt)
      have p4 := HB1.out.cell 4 _ rfl
      have q4 := HB2.out.cell 4 _ rfl
      by_cases h1 : k < a.kids.length
      · have h2 : ¬ k < b.kids.length := by omega
        go_wp2_with fail
        refine (order_ok _ _ _).mono ?_
        rintro e w' ⟨rfl, rfl⟩
        go_wp2_with fail
        go_ret
        exact ⟨by rw [Hff.out, Hs.out, Hend.out]; rfl, hg0⟩
      · go_wp2_with fail
        refine (order_ok _ _ _).mono ?_
        rintro e w' ⟨rfl, rfl⟩
        go_wp2_with fail
        go_ret
        exact ⟨by rw [Hff.out, Hs.out, Hend.out]; rfl, hg0⟩
theorem compare_ok : ∀ a, CmpSOk a := Nd.ind' CmpSOk compare_of
end Go.Proofs.Ytiobnaielfeeaaa
-- EV: rows skip
namespace Go.Proofs.Ytiobnaielfeeaaa.Eng
open Go Go.RowKit
attribute [local simp] big size_mk ASt.pay Option.map_map Function.comp_def awant aop acall ado aev ofVal ofVal0 ASt.put ASt.add ASt.turn ASt.kill abox aalloc astore aload ASt.at cellsTo afieldAddr afield aindexAddr aindex alen abin aint acmp astr aun apick aextract anil aslice abound abuild afill abuildSlice asCells aps avCells over upd aappend asrc amax amin aconv mkSt slots rowsOf_cons rowsOf_nil usedOf_cons usedOf_nil ZK.av List.replicate ASt.back ASt.addL ASt.killL nodeA nodeT nodeTL_eq nodeL_eq strsE_get strsE_len intsE_get intsE_len strsE_at intsE_at nodeN namesRow nodeO kidsRow tab2 tab3 tab4 tab5 tab6 tab7 tab8 tab9 tab10 tab11 tab12 tab13 tab14 tab15 tab16 tab17 tab18 tab19 tab21 tab22 tab23 tab24 tab25 tab26 tab27 tab28 tab29 tab30 tab48 tab51 tab52 tab59 tab77 tab78 tab79 tab91 tab95 tab96 tab97 tab109 tab116 tab132 tab133 tab138 tab139 tab144 tab145 tab146 tab148 tab149 tab150
theorem compareValid_AC (a b : Nd) (ha : Good a) (hb : Good b) : AC Try.prog 48 [nodeA a, nodeA b] 0 (fun r => r = .int .i64 (cmpN a b)) := by
  refine AC.ofGrow (enters_of Try.func48 (by kernel_rfl) (by kernel_rfl)) (fun w L S rb vs h => ?_)
  obtain ⟨v, u, rfl, h1, h2⟩ := repL2_inv h
  refine (compareValid_ok a b v u w ha hb (nodeA_of_rep h1) (nodeA_of_rep h2)).mono ?_
  rintro e w' ⟨rfl, hg⟩
  exact ⟨_, _, rfl, hg, rep_int.2 rfl, rfl⟩
theorem specCompare_AC (a b : Nd) (ha : Good a) (hb : Good b) : AC Try.prog 49 [nodeA a, nodeA b] 0 (fun r => r = .int .i64 (cmpN a b)) := by
  refine AC.ofGrow (enters_of Try.func49 (by kernel_rfl) (by kernel_rfl)) (fun w L S rb vs h => ?_)
  obtain ⟨v, u, rfl, h1, h2⟩ := repL2_inv h
  refine (compare_ok a b v u w ha hb (nodeA_of_rep h1) (nodeA_of_rep h2)).mono ?_
  rintro e w' ⟨rfl, hg⟩
  exact ⟨_, _, rfl, hg, rep_int.2 rfl, rfl⟩
theorem Good.ofV {n : Nd} (h : validB n = true) : Good n := by
  unfold validB at h
  rw [Bool.and_eq_true] at h
  exact ⟨5, h.1⟩
theorem CompareNodes_AC (a b : Nd) : AC Try.prog 20 [nodeA a, nodeA b] 0 (fun r => r = .int .i64 (cmp2 a b)) := by
  have p1 := ValidNode_AC a .loose
  have p2 := ValidNode_AC b .loose
  unfold nodeA
  rw [nodeL_eq a, nodeL_eq b]
  cases h1 : validB a
  · have e : cmp2 a b = 2 := by unfold cmp2; rw [h1]; rfl
    rw [h1] at p1
    refine AC.of tab_ok mixed_ok Try.func20 (by rfl) (by kernel_rfl) ?_; rintro ⟨P, T, hT, hm, w0, S0, rd0, k0⟩ hP hTT; dsimp only at hP hTT; subst hP hTT; unfold initSt; rw [Try.ntmps20]
    (repeat (first | with_reducible refine AW.seq ?_ | ((first | refine arun_kn 4 rfl (fun C hC => ?_) | refine arunD_kn 4 rfl (fun C hC => ?_)); (repeat ((conv => whnf); simp)); refine hC _ ?_; clear hC C; simp only [List.drop, Nat.reduceAdd]) | ((first | refine arun_kn 1 rfl (fun C hC => ?_) | refine arunD_kn 1 rfl (fun C hC => ?_)); (repeat ((conv => whnf); simp)); refine hC _ ?_; clear hC C; simp only [List.drop, Nat.reduceAdd]) | (refine arun_skip ?_ ?_; (focus (simp [awant]; done))) | (refine arun_c0 (p1) ?_; rintro _ rfl) | (refine arunD_skip ?_ ?_; (focus (simp [awant]; done))) | (refine AW.regionK [] (fun K hK => ?_)) | (refine AW.regionDK [] (pcs [] []) (by kernel_rfl) (by kernel_rfl) (fun K hK => ?_)) | (refine AW.condT ?_ ?_; (focus (simp [aev]; done))) | (refine AW.condF ?_ ?_; (focus (simp [aev]; done))) | with_reducible refine AW.block ?_ | ((first | ((first | refine arun_nil ?_ | refine arunD_nil ?_); refine hK _ ?_; clear hK K) | refine AW.skip ?_ | refine AW.exit ?_ | refine AW.ret ?_); simp only [thenA_exit, inBlockA_exit, if_true, if_false, Nat.reduceEqDiff, thenA_normal, inBlockA_normal, reduceIte, thenA_ret, inBlockA_ret, endQ_ret, endR_ret, endG_ret, endQ_normal, endR_normal, endG_normal])))
    exact ⟨.int .i64 2, by simp [ares, aresL], pur_int, by rw [e]⟩
  rw [h1] at p1
  cases h2 : validB b
  · have e : cmp2 a b = 2 := by unfold cmp2; rw [h1, h2]; rfl
    rw [h2] at p2
    refine AC.of tab_ok mixed_ok Try.func20 (by rfl) (by kernel_rfl) ?_; rintro ⟨P, T, hT, hm, w0, S0, rd0, k0⟩ hP hTT; dsimp only at hP hTT; subst hP hTT; unfold initSt; rw [Try.ntmps20]
    (repeat (first | with_reducible refine AW.seq ?_ | ((first | refine arun_kn 4 rfl (fun C hC => ?_) | refine arunD_kn 4 rfl (fun C hC => ?_)); (repeat ((conv => whnf); simp)); refine hC _ ?_; clear hC C; simp only [List.drop, Nat.reduceAdd]) | ((first | refine arun_kn 1 rfl (fun C hC => ?_) | refine arunD_kn 1 rfl (fun C hC => ?_)); (repeat ((conv => whnf); simp)); refine hC _ ?_; clear hC C; simp only [List.drop, Nat.reduceAdd]) | (refine arun_skip ?_ ?_; (focus (simp [awant]; done))) | (refine arun_c0 (p1) ?_; rintro _ rfl) | (refine arun_c0 (p2) ?_; rintro _ rfl) | (refine arunD_skip ?_ ?_; (focus (simp [awant]; done))) | (refine AW.regionK [] (fun K hK => ?_)) | (refine AW.regionDK [] (pcs [] []) (by kernel_rfl) (by kernel_rfl) (fun K hK => ?_)) | (refine AW.condT ?_ ?_; (focus (simp [aev]; done))) | (refine AW.condF ?_ ?_; (focus (simp [aev]; done))) | with_reducible refine AW.block ?_ | ((first | ((first | refine arun_nil ?_ | refine arunD_nil ?_); refine hK _ ?_; clear hK K) | refine AW.skip ?_ | refine AW.exit ?_ | refine AW.ret ?_); simp only [thenA_exit, inBlockA_exit, if_true, if_false, Nat.reduceEqDiff, thenA_normal, inBlockA_normal, reduceIte, thenA_ret, inBlockA_ret, endQ_ret, endR_ret, endG_ret, endQ_normal, endR_normal, endG_normal])))
    exact ⟨.int .i64 2, by simp [ares, aresL], pur_int, by rw [e]⟩
  · have e : cmp2 a b = cmpN a b := by unfold cmp2; rw [h1, h2]; rfl
    rw [h2] at p2
    have p3 := compareValid_AC a b (Good.ofV h1) (Good.ofV h2)
    unfold nodeA at p3
    rw [nodeL_eq a, nodeL_eq b] at p3
    refine AC.of tab_ok mixed_ok Try.func20 (by rfl) (by kernel_rfl) ?_; rintro ⟨P, T, hT, hm, w0, S0, rd0, k0⟩ hP hTT; dsimp only at hP hTT; subst hP hTT; unfold initSt; rw [Try.ntmps20]
    (repeat (first | with_reducible refine AW.seq ?_ | ((first | refine arun_kn 4 rfl (fun C hC => ?_) | refine arunD_kn 4 rfl (fun C hC => ?_)); (repeat ((conv => whnf); simp)); refine hC _ ?_; clear hC C; simp only [List.drop, Nat.reduceAdd]) | ((first | refine arun_kn 1 rfl (fun C hC => ?_) | refine arunD_kn 1 rfl (fun C hC => ?_)); (repeat ((conv => whnf); simp)); refine hC _ ?_; clear hC C; simp only [List.drop, Nat.reduceAdd]) | (refine arun_skip ?_ ?_; (focus (simp [awant]; done))) | (refine arun_c0 (p1) ?_; rintro _ rfl) | (refine arun_c0 (p2) ?_; rintro _ rfl) | (refine arun_c0 (p3) ?_; rintro _ rfl) | (refine arunD_skip ?_ ?_; (focus (simp [awant]; done))) | (refine AW.regionK [] (fun K hK => ?_)) | (refine AW.regionDK [] (pcs [] []) (by kernel_rfl) (by kernel_rfl) (fun K hK => ?_)) | (refine AW.condT ?_ ?_; (focus (simp [aev]; done))) | (refine AW.condF ?_ ?_; (focus (simp [aev]; done))) | with_reducible refine AW.block ?_ | ((first | ((first | refine arun_nil ?_ | refine arunD_nil ?_); refine hK _ ?_; clear hK K) | refine AW.skip ?_ | refine AW.exit ?_ | refine AW.ret ?_); simp only [thenA_exit, inBlockA_exit, if_true, if_false, Nat.reduceEqDiff, thenA_normal, inBlockA_normal, reduceIte, thenA_ret, inBlockA_ret, endQ_ret, endR_ret, endG_ret, endQ_normal, endR_normal, endG_normal])))
    exact ⟨.int .i64 (cmpN a b), by simp [ares, aresL], pur_int, by rw [e]⟩
theorem specCompareNodes_AC (a b : Nd) : AC Try.prog 21 [nodeA a, nodeA b] 0 (fun r => r = .int .i64 (cmp2 a b)) := by
  have p1 := validNode_AC a .loose
  have p2 := validNode_AC b .loose
  unfold nodeA
  rw [nodeL_eq a, nodeL_eq b]
  cases h1 : validB a
  · have e : cmp2 a b = 2 := by unfold cmp2; rw [h1]; rfl
    rw [h1] at p1
    refine AC.of tab_ok mixed_ok Try.func21 (by rfl) (by kernel_rfl) ?_; rintro ⟨P, T, hT, hm, w0, S0, rd0, k0⟩ hP hTT; dsimp only at hP hTT; subst hP hTT; unfold initSt; rw [Try.ntmps21]
    (repeat (first | with_reducible refine AW.seq ?_ | ((first | refine arun_kn 4 rfl (fun C hC => ?_) | refine arunD_kn 4 rfl (fun C hC => ?_)); (repeat ((conv => whnf); simp)); refine hC _ ?_; clear hC C; simp only [List.drop, Nat.reduceAdd]) | ((first | refine arun_kn 1 rfl (fun C hC => ?_) | refine arunD_kn 1 rfl (fun C hC => ?_)); (repeat ((conv => whnf); simp)); refine hC _ ?_; clear hC C; simp only [List.drop, Nat.reduceAdd]) | (refine arun_skip ?_ ?_; (focus (simp [awant]; done))) | (refine arun_c0 (p1) ?_; rintro _ rfl) | (refine arunD_skip ?_ ?_; (focus (simp [awant]; done))) | (refine AW.regionK [] (fun K hK => ?_)) | (refine AW.regionDK [] (pcs [] []) (by kernel_rfl) (by kernel_rfl) (fun K hK => ?_)) | (refine AW.condT ?_ ?_; (focus (simp [aev]; done))) | (refine AW.condF ?_ ?_; (focus (simp [aev]; done))) | with_reducible refine AW.block ?_ | ((first | ((first | refine arun_nil ?_ | refine arunD_nil ?_); refine hK _ ?_; clear hK K) | refine AW.skip ?_ | refine AW.exit ?_ | refine AW.ret ?_); simp only [thenA_exit, inBlockA_exit, if_true, if_false, Nat.reduceEqDiff, thenA_normal, inBlockA_normal, reduceIte, thenA_ret, inBlockA_ret, endQ_ret, endR_ret, endG_ret, endQ_normal, endR_normal, endG_normal])))
    exact ⟨.int .i64 2, by simp [ares, aresL], pur_int, by rw [e]⟩
  rw [h1] at p1
  cases h2 : validB b
  · have e : cmp2 a b = 2 := by unfold cmp2; rw [h1, h2]; rfl
    rw [h2] at p2
    refine AC.of tab_ok mixed_ok Try.func21 (by rfl) (by kernel_rfl) ?_; rintro ⟨P, T, hT, hm, w0, S0, rd0, k0⟩ hP hTT; dsimp only at hP hTT; subst hP hTT; unfold initSt; rw [Try.ntmps21]
    (repeat (first | with_reducible refine AW.seq ?_ | ((first | refine arun_kn 4 rfl (fun C hC => ?_) | refine arunD_kn 4 rfl (fun C hC => ?_)); (repeat ((conv => whnf); simp)); refine hC _ ?_; clear hC C; simp only [List.drop, Nat.reduceAdd]) | ((first | refine arun_kn 1 rfl (fun C hC => ?_) | refine arunD_kn 1 rfl (fun C hC => ?_)); (repeat ((conv => whnf); simp)); refine hC _ ?_; clear hC C; simp only [List.drop, Nat.reduceAdd]) | (refine arun_skip ?_ ?_; (focus (simp [awant]; done))) | (refine arun_c0 (p1) ?_; rintro _ rfl) | (refine arun_c0 (p2) ?_; rintro _ rfl) | (refine arunD_skip ?_ ?_; (focus (simp [awant]; done))) | (refine AW.regionK [] (fun K hK => ?_)) | (refine AW.regionDK [] (pcs [] []) (by kernel_rfl) (by kernel_rfl) (fun K hK => ?_)) | (refine AW.condT ?_ ?_; (focus (simp [aev]; done))) | (refine AW.condF ?_ ?_; (focus (simp [aev]; done))) | with_reducible refine AW.block ?_ | ((first | ((first | refine arun_nil ?_ | refine arunD_nil ?_); refine hK _ ?_; clear hK K) | refine AW.skip ?_ | refine AW.exit ?_ | refine AW.ret ?_); simp only [thenA_exit, inBlockA_exit, if_true, if_false, Nat.reduceEqDiff, thenA_normal, inBlockA_normal, reduceIte, thenA_ret, inBlockA_ret, endQ_ret, endR_ret, endG_ret, endQ_normal, endR_normal, endG_normal])))
    exact ⟨.int .i64 2, by simp [ares, aresL], pur_int, by rw [e]⟩
  · have e : cmp2 a b = cmpN a b := by unfold cmp2; rw [h1, h2]; rfl
    rw [h2] at p2
    have p3 := specCompare_AC a b (Good.ofV h1) (Good.ofV h2)
    unfold nodeA at p3
    rw [nodeL_eq a, nodeL_eq b] at p3
    refine AC.of tab_ok mixed_ok Try.func21 (by rfl) (by kernel_rfl) ?_; rintro ⟨P, T, hT, hm, w0, S0, rd0, k0⟩ hP hTT; dsimp only at hP hTT; subst hP hTT; unfold initSt; rw [Try.ntmps21]
    (repeat (first | with_reducible refine AW.seq ?_ | ((first | refine arun_kn 4 rfl (fun C hC => ?_) | refine arunD_kn 4 rfl (fun C hC => ?_)); (repeat ((conv => whnf); simp)); refine hC _ ?_; clear hC C; simp only [List.drop, Nat.reduceAdd]) | ((first | refine arun_kn 1 rfl (fun C hC => ?_) | refine arunD_kn 1 rfl (fun C hC => ?_)); (repeat ((conv => whnf); simp)); refine hC _ ?_; clear hC C; simp only [List.drop, Nat.reduceAdd]) | (refine arun_skip ?_ ?_; (focus (simp [awant]; done))) | (refine arun_c0 (p1) ?_; rintro _ rfl) | (refine arun_c0 (p2) ?_; rintro _ rfl) | (refine arun_c0 (p3) ?_; rintro _ rfl) | (refine arunD_skip ?_ ?_; (focus (simp [awant]; done))) | (refine AW.regionK [] (fun K hK => ?_)) | (refine AW.regionDK [] (pcs [] []) (by kernel_rfl) (by kernel_rfl) (fun K hK => ?_)) | (refine AW.condT ?_ ?_; (focus (simp [aev]; done))) | (refine AW.condF ?_ ?_; (focus (simp [aev]; done))) | with_reducible refine AW.block ?_ | ((first | ((first | refine arun_nil ?_ | refine arunD_nil ?_); refine hK _ ?_; clear hK K) | refine AW.skip ?_ | refine AW.exit ?_ | refine AW.ret ?_); simp only [thenA_exit, inBlockA_exit, if_true, if_false, Nat.reduceEqDiff, thenA_normal, inBlockA_normal, reduceIte, thenA_ret, inBlockA_ret, endQ_ret, endR_ret, endG_ret, endQ_normal, endR_normal, endG_normal])))
    exact ⟨.int .i64 (cmpN a b), by simp [ares, aresL], pur_int, by rw [e]⟩
theorem leafT_wk (k m : Int) (x : ByteArray) : Wk (node0 k m x) (nodeA ⟨k, m, x, [], []⟩) := by
  unfold node0 nodeA
  rw [nodeL_eq]
  exact Wk.agg (.cons (Wk.refl _) (.cons (Wk.refl _) (.cons (Wk.refl _) (.cons (Wk.nil (fun h => by cases h)) (.cons (Wk.nil (fun h => by cases h)) .nil)))))
theorem none_AC : AC Try.prog 22 [] 0 (fun r => r = nodeA Nd.zero) := by
  refine AC.weak ?_
  refine AC.of tab_ok mixed_ok Try.func22 (by rfl) (by kernel_rfl) ?_; rintro ⟨P, T, hT, hm, w0, S0, rd0, k0⟩ hP hTT; dsimp only at hP hTT; subst hP hTT; unfold initSt; rw [Try.ntmps22]
  (repeat (first | with_reducible refine AW.seq ?_ | ((first | refine arun_kn 4 rfl (fun C hC => ?_) | refine arunD_kn 4 rfl (fun C hC => ?_)); (repeat ((conv => whnf); simp)); refine hC _ ?_; clear hC C; simp only [List.drop, Nat.reduceAdd]) | ((first | refine arun_kn 1 rfl (fun C hC => ?_) | refine arunD_kn 1 rfl (fun C hC => ?_)); (repeat ((conv => whnf); simp)); refine hC _ ?_; clear hC C; simp only [List.drop, Nat.reduceAdd]) | (refine arun_skip ?_ ?_; (focus (simp [awant]; done))) | (refine arunD_skip ?_ ?_; (focus (simp [awant]; done))) | (refine AW.regionK [] (fun K hK => ?_)) | (refine AW.regionDK [] (pcs [] []) (by kernel_rfl) (by kernel_rfl) (fun K hK => ?_)) | (refine AW.condT ?_ ?_; (focus (simp [aev]; done))) | (refine AW.condF ?_ ?_; (focus (simp [aev]; done))) | with_reducible refine AW.block ?_ | ((first | ((first | refine arun_nil ?_ | refine arunD_nil ?_); refine hK _ ?_; clear hK K) | refine AW.skip ?_ | refine AW.exit ?_ | refine AW.ret ?_); simp only [thenA_exit, inBlockA_exit, if_true, if_false, Nat.reduceEqDiff, thenA_normal, inBlockA_normal, reduceIte, thenA_ret, inBlockA_ret, endQ_ret, endR_ret, endG_ret, endQ_normal, endR_normal, endG_normal])))
  exact ⟨node0 0 0 ⟨#[]⟩, by simp [node0, ares, aresL], node0_pur _ _ _, _, leafT_wk _ _ _, rfl⟩
theorem number_AC (k : Int) : AC Try.prog 23 [.int .i64 k] 0 (fun r => r = nodeA ⟨1, k, ⟨#[]⟩, [], []⟩) := by
  refine AC.weak ?_
  refine AC.of tab_ok mixed_ok Try.func23 (by rfl) (by kernel_rfl) ?_; rintro ⟨P, T, hT, hm, w0, S0, rd0, k0⟩ hP hTT; dsimp only at hP hTT; subst hP hTT; unfold initSt; rw [Try.ntmps23]
  (repeat (first | with_reducible refine AW.seq ?_ | ((first | refine arun_kn 4 rfl (fun C hC => ?_) | refine arunD_kn 4 rfl (fun C hC => ?_)); (repeat ((conv => whnf); simp)); refine hC _ ?_; clear hC C; simp only [List.drop, Nat.reduceAdd]) | ((first | refine arun_kn 1 rfl (fun C hC => ?_) | refine arunD_kn 1 rfl (fun C hC => ?_)); (repeat ((conv => whnf); simp)); refine hC _ ?_; clear hC C; simp only [List.drop, Nat.reduceAdd]) | (refine arun_skip ?_ ?_; (focus (simp [awant]; done))) | (refine arunD_skip ?_ ?_; (focus (simp [awant]; done))) | (refine AW.regionK [] (fun K hK => ?_)) | (refine AW.regionDK [] (pcs [] []) (by kernel_rfl) (by kernel_rfl) (fun K hK => ?_)) | (refine AW.condT ?_ ?_; (focus (simp [aev]; done))) | (refine AW.condF ?_ ?_; (focus (simp [aev]; done))) | with_reducible refine AW.block ?_ | ((first | ((first | refine arun_nil ?_ | refine arunD_nil ?_); refine hK _ ?_; clear hK K) | refine AW.skip ?_ | refine AW.exit ?_ | refine AW.ret ?_); simp only [thenA_exit, inBlockA_exit, if_true, if_false, Nat.reduceEqDiff, thenA_normal, inBlockA_normal, reduceIte, thenA_ret, inBlockA_ret, endQ_ret, endR_ret, endG_ret, endQ_normal, endR_normal, endG_normal])))
  exact ⟨node0 1 k ⟨#[]⟩, by simp [node0, ares, aresL], node0_pur _ _ _, _, leafT_wk _ _ _, rfl⟩
theorem cmp2_two {a b : Nd} (h : (cmp2 a b == 2) = false) : validB a = true ∧ validB b = true ∧ cmp2 a b = cmpN a b := by
  unfold cmp2 at *
  cases h1 : validB a
  · rw [h1] at h; simp at h
  · cases h2 : validB b
    · rw [h1, h2] at h; simp at h
    · exact ⟨rfl, rfl, rfl⟩
end Go.Proofs.Ytiobnaielfeeaaa.Eng
namespace Go.Proofs.Ytiobnaielfeeaaa.Eng
open Go Go.RowKit
attribute [local simp] big size_mk ASt.pay Option.map_map Function.comp_def awant aop acall ado aev ofVal ofVal0 ASt.put ASt.add ASt.turn ASt.kill abox aalloc astore aload ASt.at cellsTo afieldAddr afield aindexAddr aindex alen abin aint acmp astr aun apick aextract anil aslice abound abuild afill abuildSlice asCells aps avCells over upd aappend asrc amax amin aconv mkSt slots rowsOf_cons rowsOf_nil usedOf_cons usedOf_nil ZK.av List.replicate ASt.back ASt.addL ASt.killL nodeA nodeT nodeTL_eq nodeL_eq strsE_get strsE_len intsE_get intsE_len strsE_at intsE_at tab2 tab3 tab4 tab5 tab6 tab7 tab8 tab9 tab10 tab11 tab12 tab13 tab14 tab15 tab16 tab17 tab18 tab19 tab21 tab22 tab23 tab24 tab25 tab26 tab27 tab28 tab29 tab30 tab48 tab51 tab52 tab59 tab77 tab78 tab79 tab91 tab95 tab96 tab97 tab109 tab116 tab132 tab133 tab138 tab139 tab144 tab145 tab146 tab148 tab149 tab150
theorem eqT_dec : ∀ xs ys : List ByteArray, eqT xs ys = decide (xs = ys)
  | [], [] => by simp [eqT]
  | [], _ :: _ => by simp [eqT]
  | _ :: _, [] => by simp [eqT]
  | x :: xs, y :: ys => by
    rw [eqT, eqT_dec xs ys]
    cases h : eqs x y
    · have : x ≠ y := eqs_false.1 h
      simp [this]
    · have : x = y := eqs_iff.1 h
      simp [this]
theorem eqs_dec (x y : ByteArray) : eqs x y = decide (x = y) := by
  cases h : eqs x y
  · have : x ≠ y := eqs_false.1 h
    simp [this]
  · have : x = y := eqs_iff.1 h
    simp [this]
theorem eqN_T (a b : Nd) : eqN a b = ((a.kind == b.kind) && (a.num == b.num) && eqs a.text b.text && eqT a.names b.names && eqL a.kids b.kids) := by
  rw [eqN_eq, eqT_dec, eqs_dec]
  congr 4
theorem equalNodesG_step (t t' : VC) (ks js : List Nd) (hn : ks.length ≤ 1000000) (ih : ∀ k ∈ ks, ∀ j, AC Try.prog 24 [nodeA k, nodeA j] 0 (fun r => r = .bool (eqN k j))) : AC Try.prog 50 [.view t 5 (ks.map nodeL), .view t' 5 (js.map nodeL)] 0 (fun r => r = .bool (eqL ks js)) := by
  refine AC.of tab_ok mixed_ok Try.func50 (by rfl) (by kernel_rfl) ?_; rintro ⟨P, T, hT, hm, w0, S0, rd0, k0⟩ hP hTT; dsimp only at hP hTT; subst hP hTT; unfold initSt; rw [Try.ntmps50]
  by_cases hlen : ks.length = js.length
  · have hlen' : ((ks.length : Int) != (js.length : Int)) = false := by rw [hlen]; simp
    (repeat (first | with_reducible refine AW.seq ?_ | ((first | refine arun_kn 4 rfl (fun C hC => ?_) | refine arunD_kn 4 rfl (fun C hC => ?_)); (repeat ((conv => whnf); simp [List.length_map, hlen'])); refine hC _ ?_; clear hC C; simp only [List.drop, Nat.reduceAdd]) | ((first | refine arun_kn 1 rfl (fun C hC => ?_) | refine arunD_kn 1 rfl (fun C hC => ?_)); (repeat ((conv => whnf); simp [List.length_map, hlen'])); refine hC _ ?_; clear hC C; simp only [List.drop, Nat.reduceAdd]) | (refine arun_skip ?_ ?_; (focus (simp [awant, List.length_map, hlen']; done))) | (refine AW.regionK [] (fun K hK => ?_)) | (refine AW.regionDK [] (pcs [] []) (by kernel_rfl) (by kernel_rfl) (fun K hK => ?_)) | (refine AW.condT ?_ ?_; (focus (simp [aev, List.length_map, hlen']; done))) | (refine AW.condF ?_ ?_; (focus (simp [aev, List.length_map, hlen']; done))) | with_reducible refine AW.block ?_ | ((first | ((first | refine arun_nil ?_ | refine arunD_nil ?_); refine hK _ ?_; clear hK K) | refine AW.skip ?_ | refine AW.exit ?_ | refine AW.ret ?_); simp only [thenA_exit, inBlockA_exit, if_true, if_false, Nat.reduceEqDiff, thenA_normal, inBlockA_normal, reduceIte, thenA_ret, inBlockA_ret, endQ_ret, endR_ret, endG_ret, endQ_normal, endR_normal, endG_normal])))
    refine AW.loopS (fun (i : Nat) => mkSt (slots 0 27 [(0, .view t 5 (ks.map nodeL)), (1, .view t' 5 (js.map nodeL)), (5, .int .i64 i)]) [] [] (rd0.map fun _ => 0)) (fun i => ks.length - i) (fun i => i ≤ ks.length ∧ eqL ks js = eqL (ks.drop i) (js.drop i)) 0 ?_ ⟨Nat.zero_le _, rfl⟩ ?_
    · exact less_a
    · rintro i ⟨hi, hf⟩
      by_cases hlt : i < ks.length
      · have hlt2 : i < js.length := by omega
        have hw : IntKind.i64.wrap ((i : Int) + 1) = (i : Int) + 1 := i64_nat (by omega) (by omega)
        have hik := ih ks[i] (List.getElem_mem hlt) js[i]
        rw [List.drop_eq_getElem_cons hlt, List.drop_eq_getElem_cons hlt2, eqL] at hf
        cases hb : eqN ks[i] js[i]
        · rw [hb] at hf hik
          (repeat (first | with_reducible refine AW.seq ?_ | ((first | refine arun_kn 4 rfl (fun C hC => ?_) | refine arunD_kn 4 rfl (fun C hC => ?_)); (repeat ((conv => whnf); simp [hlt, hlt2, hw, List.length_map])); refine hC _ ?_; clear hC C; simp only [List.drop, Nat.reduceAdd]) | ((first | refine arun_kn 1 rfl (fun C hC => ?_) | refine arunD_kn 1 rfl (fun C hC => ?_)); (repeat ((conv => whnf); simp [hlt, hlt2, hw, List.length_map])); refine hC _ ?_; clear hC C; simp only [List.drop, Nat.reduceAdd]) | (refine arun_skip ?_ ?_; (focus (simp [awant, hlt, hlt2, hw, List.length_map]; done))) | (refine arun_c0 (hik) ?_; rintro _ rfl) | (refine arunD_c (0) (hik) ?_; rintro _ rfl; intro _) | (refine AW.regionK [] (fun K hK => ?_)) | (refine AW.regionDK [] (pcs [(8, 0, fun r => r = .bool false)] []) (by kernel_rfl) (by kernel_rfl) (fun K hK => ?_)) | (refine AW.condT ?_ ?_; (focus (simp [aev, hlt, hlt2, hw, List.length_map]; done))) | (refine AW.condF ?_ ?_; (focus (simp [aev, hlt, hlt2, hw, List.length_map]; done))) | with_reducible refine AW.block ?_ | ((first | ((first | refine arun_nil ?_ | refine arunD_nil ?_); refine hK _ ?_; clear hK K) | refine AW.skip ?_ | refine AW.exit ?_ | refine AW.ret ?_); simp only [thenA_exit, inBlockA_exit, if_true, if_false, Nat.reduceEqDiff, thenA_normal, inBlockA_normal, reduceIte, thenA_ret, inBlockA_ret, endQ_ret, endR_ret, endG_ret, endQ_normal, endR_normal, endG_normal])))
          exact ⟨.bool false, by simp [ares, aresL], pur_bool, by rw [hf]; rfl⟩
        · rw [hb] at hf hik
          (repeat (first | with_reducible refine AW.seq ?_ | ((first | refine arun_kn 4 rfl (fun C hC => ?_) | refine arunD_kn 4 rfl (fun C hC => ?_)); (repeat ((conv => whnf); simp [hlt, hlt2, hw, List.length_map])); refine hC _ ?_; clear hC C; simp only [List.drop, Nat.reduceAdd]) | ((first | refine arun_kn 1 rfl (fun C hC => ?_) | refine arunD_kn 1 rfl (fun C hC => ?_)); (repeat ((conv => whnf); simp [hlt, hlt2, hw, List.length_map])); refine hC _ ?_; clear hC C; simp only [List.drop, Nat.reduceAdd]) | (refine arun_skip ?_ ?_; (focus (simp [awant, hlt, hlt2, hw, List.length_map]; done))) | (refine arun_c0 (hik) ?_; rintro _ rfl) | (refine arunD_c (0) (hik) ?_; rintro _ rfl; intro _) | (refine AW.regionK [] (fun K hK => ?_)) | (refine AW.regionDK [] (pcs [(8, 0, fun r => r = .bool true)] []) (by kernel_rfl) (by kernel_rfl) (fun K hK => ?_)) | (refine AW.condT ?_ ?_; (focus (simp [aev, hlt, hlt2, hw, List.length_map]; done))) | (refine AW.condF ?_ ?_; (focus (simp [aev, hlt, hlt2, hw, List.length_map]; done))) | with_reducible refine AW.block ?_ | ((first | ((first | refine arun_nil ?_ | refine arunD_nil ?_); refine hK _ ?_; clear hK K) | refine AW.skip ?_ | refine AW.exit ?_ | refine AW.ret ?_); simp only [thenA_exit, inBlockA_exit, if_true, if_false, Nat.reduceEqDiff, thenA_normal, inBlockA_normal, reduceIte, thenA_ret, inBlockA_ret, endQ_ret, endR_ret, endG_ret, endQ_normal, endR_normal, endG_normal])))
          exact ⟨i + 1, by omega, ⟨by omega, by rw [hf]; simp⟩, less_a⟩
      · rw [List.drop_eq_nil_of_le (by omega), List.drop_eq_nil_of_le (by omega)] at hf
        (repeat (first | with_reducible refine AW.seq ?_ | ((first | refine arun_kn 4 rfl (fun C hC => ?_) | refine arunD_kn 4 rfl (fun C hC => ?_)); (repeat ((conv => whnf); simp [hlt, List.length_map])); refine hC _ ?_; clear hC C; simp only [List.drop, Nat.reduceAdd]) | ((first | refine arun_kn 1 rfl (fun C hC => ?_) | refine arunD_kn 1 rfl (fun C hC => ?_)); (repeat ((conv => whnf); simp [hlt, List.length_map])); refine hC _ ?_; clear hC C; simp only [List.drop, Nat.reduceAdd]) | (refine arun_skip ?_ ?_; (focus (simp [awant, hlt, List.length_map]; done))) | (refine AW.regionK [] (fun K hK => ?_)) | (refine AW.regionDK [] (pcs [] []) (by kernel_rfl) (by kernel_rfl) (fun K hK => ?_)) | (refine AW.condT ?_ ?_; (focus (simp [aev, hlt, List.length_map]; done))) | (refine AW.condF ?_ ?_; (focus (simp [aev, hlt, List.length_map]; done))) | with_reducible refine AW.block ?_ | ((first | ((first | refine arun_nil ?_ | refine arunD_nil ?_); refine hK _ ?_; clear hK K) | refine AW.skip ?_ | refine AW.exit ?_ | refine AW.ret ?_); simp only [thenA_exit, inBlockA_exit, if_true, if_false, Nat.reduceEqDiff, thenA_normal, inBlockA_normal, reduceIte, thenA_ret, inBlockA_ret, endQ_ret, endR_ret, endG_ret, endQ_normal, endR_normal, endG_normal])))
        exact ⟨.bool true, by simp [ares, aresL], pur_bool, by rw [hf]; rfl⟩
  · have hlen' : ((ks.length : Int) != (js.length : Int)) = true := by simp; omega
    (repeat (first | with_reducible refine AW.seq ?_ | ((first | refine arun_kn 4 rfl (fun C hC => ?_) | refine arunD_kn 4 rfl (fun C hC => ?_)); (repeat ((conv => whnf); simp [List.length_map, hlen'])); refine hC _ ?_; clear hC C; simp only [List.drop, Nat.reduceAdd]) | ((first | refine arun_kn 1 rfl (fun C hC => ?_) | refine arunD_kn 1 rfl (fun C hC => ?_)); (repeat ((conv => whnf); simp [List.length_map, hlen'])); refine hC _ ?_; clear hC C; simp only [List.drop, Nat.reduceAdd]) | (refine arun_skip ?_ ?_; (focus (simp [awant, List.length_map, hlen']; done))) | (refine AW.regionK [] (fun K hK => ?_)) | (refine AW.regionDK [] (pcs [] []) (by kernel_rfl) (by kernel_rfl) (fun K hK => ?_)) | (refine AW.condT ?_ ?_; (focus (simp [aev, List.length_map, hlen']; done))) | (refine AW.condF ?_ ?_; (focus (simp [aev, List.length_map, hlen']; done))) | with_reducible refine AW.block ?_ | ((first | ((first | refine arun_nil ?_ | refine arunD_nil ?_); refine hK _ ?_; clear hK K) | refine AW.skip ?_ | refine AW.exit ?_ | refine AW.ret ?_); simp only [thenA_exit, inBlockA_exit, if_true, if_false, Nat.reduceEqDiff, thenA_normal, inBlockA_normal, reduceIte, thenA_ret, inBlockA_ret, endQ_ret, endR_ret, endG_ret, endQ_normal, endR_normal, endG_normal])))
    exact ⟨.bool false, by simp [ares, aresL], pur_bool, by rw [eqL_len hlen]⟩
theorem equalNodeG_step (n m : Nd) (hs : Sml n) (t t' : VC) (ih : ∀ k ∈ n.kids, ∀ j, AC Try.prog 24 [nodeA k, nodeA j] 0 (fun r => r = .bool (eqN k j))) : AC Try.prog 24 [nodeT t n, nodeT t' m] 0 (fun r => r = .bool (eqN n m)) := by
  have hs1 := hs.names
  have hs2 := hs.kids
  have p1 := equalTexts_AC t t' n.names m.names (by omega)
  have p2 := equalNodesG_step .loose .loose n.kids m.kids (by omega) ih
  rw [eqN_T]
  refine AC.of tab_ok mixed_ok Try.func24 (by rfl) (by kernel_rfl) ?_; rintro ⟨P, T, hT, hm, w0, S0, rd0, k0⟩ hP hTT; dsimp only at hP hTT; subst hP hTT; unfold initSt; rw [Try.ntmps24]
  unfold nodeT
  rw [nodeTL_eq, nodeTL_eq]
  cases e1 : (n.kind == m.kind)
  · (repeat (first | with_reducible refine AW.seq ?_ | ((first | refine arun_kn 4 rfl (fun C hC => ?_) | refine arunD_kn 4 rfl (fun C hC => ?_)); (repeat ((conv => whnf); simp [e1, nodeTL_eq])); refine hC _ ?_; clear hC C; simp only [List.drop, Nat.reduceAdd]) | ((first | refine arun_kn 1 rfl (fun C hC => ?_) | refine arunD_kn 1 rfl (fun C hC => ?_)); (repeat ((conv => whnf); simp [e1, nodeTL_eq])); refine hC _ ?_; clear hC C; simp only [List.drop, Nat.reduceAdd]) | (refine arun_skip ?_ ?_; (focus (simp [awant, e1, nodeTL_eq]; done))) | (refine AW.regionK [] (fun K hK => ?_)) | (refine AW.regionDK [] (pcs [] []) (by kernel_rfl) (by kernel_rfl) (fun K hK => ?_)) | (refine AW.condT ?_ ?_; (focus (simp [aev, e1, nodeTL_eq]; done))) | (refine AW.condF ?_ ?_; (focus (simp [aev, e1, nodeTL_eq]; done))) | with_reducible refine AW.block ?_ | ((first | ((first | refine arun_nil ?_ | refine arunD_nil ?_); refine hK _ ?_; clear hK K) | refine AW.skip ?_ | refine AW.exit ?_ | refine AW.ret ?_); simp only [thenA_exit, inBlockA_exit, if_true, if_false, Nat.reduceEqDiff, thenA_normal, inBlockA_normal, reduceIte, thenA_ret, inBlockA_ret, endQ_ret, endR_ret, endG_ret, endQ_normal, endR_normal, endG_normal])))
    exact ⟨.bool false, by simp [ares, aresL], pur_bool, rfl⟩
  cases e2 : (n.num == m.num)
  · (repeat (first | with_reducible refine AW.seq ?_ | ((first | refine arun_kn 4 rfl (fun C hC => ?_) | refine arunD_kn 4 rfl (fun C hC => ?_)); (repeat ((conv => whnf); simp [e1, e2, nodeTL_eq])); refine hC _ ?_; clear hC C; simp only [List.drop, Nat.reduceAdd]) | ((first | refine arun_kn 1 rfl (fun C hC => ?_) | refine arunD_kn 1 rfl (fun C hC => ?_)); (repeat ((conv => whnf); simp [e1, e2, nodeTL_eq])); refine hC _ ?_; clear hC C; simp only [List.drop, Nat.reduceAdd]) | (refine arun_skip ?_ ?_; (focus (simp [awant, e1, e2, nodeTL_eq]; done))) | (refine AW.regionK [] (fun K hK => ?_)) | (refine AW.regionDK [] (pcs [] []) (by kernel_rfl) (by kernel_rfl) (fun K hK => ?_)) | (refine AW.condT ?_ ?_; (focus (simp [aev, e1, e2, nodeTL_eq]; done))) | (refine AW.condF ?_ ?_; (focus (simp [aev, e1, e2, nodeTL_eq]; done))) | with_reducible refine AW.block ?_ | ((first | ((first | refine arun_nil ?_ | refine arunD_nil ?_); refine hK _ ?_; clear hK K) | refine AW.skip ?_ | refine AW.exit ?_ | refine AW.ret ?_); simp only [thenA_exit, inBlockA_exit, if_true, if_false, Nat.reduceEqDiff, thenA_normal, inBlockA_normal, reduceIte, thenA_ret, inBlockA_ret, endQ_ret, endR_ret, endG_ret, endQ_normal, endR_normal, endG_normal])))
    exact ⟨.bool false, by simp [ares, aresL], pur_bool, rfl⟩
  cases e3 : eqs n.text m.text
  · (repeat (first | with_reducible refine AW.seq ?_ | ((first | refine arun_kn 4 rfl (fun C hC => ?_) | refine arunD_kn 4 rfl (fun C hC => ?_)); (repeat ((conv => whnf); simp [e1, e2, e3, nodeTL_eq])); refine hC _ ?_; clear hC C; simp only [List.drop, Nat.reduceAdd]) | ((first | refine arun_kn 1 rfl (fun C hC => ?_) | refine arunD_kn 1 rfl (fun C hC => ?_)); (repeat ((conv => whnf); simp [e1, e2, e3, nodeTL_eq])); refine hC _ ?_; clear hC C; simp only [List.drop, Nat.reduceAdd]) | (refine arun_skip ?_ ?_; (focus (simp [awant, e1, e2, e3, nodeTL_eq]; done))) | (refine AW.regionK [] (fun K hK => ?_)) | (refine AW.regionDK [] (pcs [] []) (by kernel_rfl) (by kernel_rfl) (fun K hK => ?_)) | (refine AW.condT ?_ ?_; (focus (simp [aev, e1, e2, e3, nodeTL_eq]; done))) | (refine AW.condF ?_ ?_; (focus (simp [aev, e1, e2, e3, nodeTL_eq]; done))) | with_reducible refine AW.block ?_ | ((first | ((first | refine arun_nil ?_ | refine arunD_nil ?_); refine hK _ ?_; clear hK K) | refine AW.skip ?_ | refine AW.exit ?_ | refine AW.ret ?_); simp only [thenA_exit, inBlockA_exit, if_true, if_false, Nat.reduceEqDiff, thenA_normal, inBlockA_normal, reduceIte, thenA_ret, inBlockA_ret, endQ_ret, endR_ret, endG_ret, endQ_normal, endR_normal, endG_normal])))
    exact ⟨.bool false, by simp [ares, aresL], pur_bool, rfl⟩
  cases e4 : eqT n.names m.names <;> rw [e4] at p1
  · (repeat (first | with_reducible refine AW.seq ?_ | ((first | refine arun_kn 4 rfl (fun C hC => ?_) | refine arunD_kn 4 rfl (fun C hC => ?_)); (repeat ((conv => whnf); simp [e1, e2, e3, nodeTL_eq])); refine hC _ ?_; clear hC C; simp only [List.drop, Nat.reduceAdd]) | ((first | refine arun_kn 1 rfl (fun C hC => ?_) | refine arunD_kn 1 rfl (fun C hC => ?_)); (repeat ((conv => whnf); simp [e1, e2, e3, nodeTL_eq])); refine hC _ ?_; clear hC C; simp only [List.drop, Nat.reduceAdd]) | (refine arun_skip ?_ ?_; (focus (simp [awant, e1, e2, e3, nodeTL_eq]; done))) | (refine arun_c0 (p1) ?_; rintro _ rfl) | (refine AW.regionK [] (fun K hK => ?_)) | (refine AW.regionDK [] (pcs [] []) (by kernel_rfl) (by kernel_rfl) (fun K hK => ?_)) | (refine AW.condT ?_ ?_; (focus (simp [aev, e1, e2, e3, nodeTL_eq]; done))) | (refine AW.condF ?_ ?_; (focus (simp [aev, e1, e2, e3, nodeTL_eq]; done))) | with_reducible refine AW.block ?_ | ((first | ((first | refine arun_nil ?_ | refine arunD_nil ?_); refine hK _ ?_; clear hK K) | refine AW.skip ?_ | refine AW.exit ?_ | refine AW.ret ?_); simp only [thenA_exit, inBlockA_exit, if_true, if_false, Nat.reduceEqDiff, thenA_normal, inBlockA_normal, reduceIte, thenA_ret, inBlockA_ret, endQ_ret, endR_ret, endG_ret, endQ_normal, endR_normal, endG_normal])))
    exact ⟨.bool false, by simp [ares, aresL], pur_bool, rfl⟩
  cases e5 : eqL n.kids m.kids <;> rw [e5] at p2
  · (repeat (first | with_reducible refine AW.seq ?_ | ((first | refine arun_kn 4 rfl (fun C hC => ?_) | refine arunD_kn 4 rfl (fun C hC => ?_)); (repeat ((conv => whnf); simp [e1, e2, e3, nodeTL_eq])); refine hC _ ?_; clear hC C; simp only [List.drop, Nat.reduceAdd]) | ((first | refine arun_kn 1 rfl (fun C hC => ?_) | refine arunD_kn 1 rfl (fun C hC => ?_)); (repeat ((conv => whnf); simp [e1, e2, e3, nodeTL_eq])); refine hC _ ?_; clear hC C; simp only [List.drop, Nat.reduceAdd]) | (refine arun_skip ?_ ?_; (focus (simp [awant, e1, e2, e3, nodeTL_eq]; done))) | (refine arun_c0 (p1) ?_; rintro _ rfl) | (refine arun_c0 (p2) ?_; rintro _ rfl) | (refine AW.regionK [] (fun K hK => ?_)) | (refine AW.regionDK [] (pcs [] []) (by kernel_rfl) (by kernel_rfl) (fun K hK => ?_)) | (refine AW.condT ?_ ?_; (focus (simp [aev, e1, e2, e3, nodeTL_eq]; done))) | (refine AW.condF ?_ ?_; (focus (simp [aev, e1, e2, e3, nodeTL_eq]; done))) | with_reducible refine AW.block ?_ | ((first | ((first | refine arun_nil ?_ | refine arunD_nil ?_); refine hK _ ?_; clear hK K) | refine AW.skip ?_ | refine AW.exit ?_ | refine AW.ret ?_); simp only [thenA_exit, inBlockA_exit, if_true, if_false, Nat.reduceEqDiff, thenA_normal, inBlockA_normal, reduceIte, thenA_ret, inBlockA_ret, endQ_ret, endR_ret, endG_ret, endQ_normal, endR_normal, endG_normal])))
    exact ⟨.bool false, by simp [ares, aresL], pur_bool, rfl⟩
  · (repeat (first | with_reducible refine AW.seq ?_ | ((first | refine arun_kn 4 rfl (fun C hC => ?_) | refine arunD_kn 4 rfl (fun C hC => ?_)); (repeat ((conv => whnf); simp [e1, e2, e3, nodeTL_eq])); refine hC _ ?_; clear hC C; simp only [List.drop, Nat.reduceAdd]) | ((first | refine arun_kn 1 rfl (fun C hC => ?_) | refine arunD_kn 1 rfl (fun C hC => ?_)); (repeat ((conv => whnf); simp [e1, e2, e3, nodeTL_eq])); refine hC _ ?_; clear hC C; simp only [List.drop, Nat.reduceAdd]) | (refine arun_skip ?_ ?_; (focus (simp [awant, e1, e2, e3, nodeTL_eq]; done))) | (refine arun_c0 (p1) ?_; rintro _ rfl) | (refine arun_c0 (p2) ?_; rintro _ rfl) | (refine AW.regionK [] (fun K hK => ?_)) | (refine AW.regionDK [] (pcs [] []) (by kernel_rfl) (by kernel_rfl) (fun K hK => ?_)) | (refine AW.condT ?_ ?_; (focus (simp [aev, e1, e2, e3, nodeTL_eq]; done))) | (refine AW.condF ?_ ?_; (focus (simp [aev, e1, e2, e3, nodeTL_eq]; done))) | with_reducible refine AW.block ?_ | ((first | ((first | refine arun_nil ?_ | refine arunD_nil ?_); refine hK _ ?_; clear hK K) | refine AW.skip ?_ | refine AW.exit ?_ | refine AW.ret ?_); simp only [thenA_exit, inBlockA_exit, if_true, if_false, Nat.reduceEqDiff, thenA_normal, inBlockA_normal, reduceIte, thenA_ret, inBlockA_ret, endQ_ret, endR_ret, endG_ret, endQ_normal, endR_normal, endG_normal])))
    exact ⟨.bool true, by simp [ares, aresL], pur_bool, rfl⟩
theorem equalNodeG_AC : ∀ n, Sml n → ∀ m t t', AC Try.prog 24 [nodeT t n, nodeT t' m] 0 (fun r => r = .bool (eqN n m)) := Nd.ind' _ (fun n ih hs m t t' =>
  equalNodeG_step n m hs t t' (fun k hk j => by have := ih k hk (hs.kid hk) j .loose .loose; rwa [nodeT_loose, nodeT_loose] at this))
end Go.Proofs.Ytiobnaielfeeaaa.Eng
-- EV: rows skip
namespace Go.Proofs.Ytiobnaielfeeaaa.Eng
open Go Go.RowKit
attribute [local simp] big size_mk ASt.pay Option.map_map Function.comp_def awant aop acall ado aev ofVal ofVal0 ASt.put ASt.add ASt.turn ASt.kill abox aalloc astore aload ASt.at cellsTo afieldAddr afield aindexAddr aindex alen abin aint acmp astr aun apick aextract anil aslice abound abuild afill abuildSlice asCells aps avCells over upd aappend asrc amax amin aconv mkSt slots rowsOf_cons rowsOf_nil usedOf_cons usedOf_nil ZK.av List.replicate ASt.back ASt.addL ASt.killL nodeA nodeT nodeTL_eq nodeL_eq strsE_get strsE_len intsE_get intsE_len strsE_at intsE_at nodeN namesRow nodeO kidsRow tab2 tab3 tab4 tab5 tab6 tab7 tab8 tab9 tab10 tab11 tab12 tab13 tab14 tab15 tab16 tab17 tab18 tab19 tab21 tab22 tab23 tab24 tab25 tab26 tab27 tab28 tab29 tab30 tab48 tab51 tab52 tab59 tab77 tab78 tab79 tab91 tab95 tab96 tab97 tab109 tab116 tab132 tab133 tab138 tab139 tab144 tab145 tab146 tab148 tab149 tab150
theorem cmp2_swap {a b : Nd} (h1 : validB a = true) (h2 : validB b = true) : cmp2 b a = - cmp2 a b := by
  unfold cmp2; rw [h1, h2]; exact cmpN_swap a b
theorem cmp2_refl {a : Nd} (h1 : validB a = true) : cmp2 a a = 0 := by
  unfold cmp2; rw [h1]; exact cmpN_refl a
theorem cmp2_range (a b : Nd) : cmp2 a b = -1 ∨ cmp2 a b = 0 ∨ cmp2 a b = 1 ∨ cmp2 a b = 2 := by
  unfold cmp2
  split
  · rcases cmpN_range a b with h | h | h <;> omega
  · omega
theorem eqN_cmp {a b : Nd} (h1 : validB a = true) (h2 : validB b = true) : eqN a b = (cmp2 a b == 0) := by
  have e : cmp2 a b = cmpN a b := by unfold cmp2; rw [h1, h2]; rfl
  rw [e]
  cases h : cmpN a b == 0
  · have hne : a ≠ b := fun hab => by subst hab; rw [cmpN_refl] at h; simp at h
    cases he : eqN a b
    · rfl
    · exact absurd ((eqN_iff a b).1 he) hne
  · have : cmpN a b = 0 := by simpa using h
    have hab := cmpN_zero a b (Good.ofV h1) (Good.ofV h2) this
    subst hab
    exact eqN_refl a
theorem lawCmp_AC0 (zs : List Int) (hb : ByteL zs) : AC0 Try.prog 6 [.view .loose 1 (bytesE zs)] (fun r => r = .bool true) := by
  refine AC0.of tab_ok mixed_ok Try.func6 (by rfl) (by kernel_rfl) ?_; rintro ⟨P, T, hT, hm, w0, S0, rd0, k0⟩ hP hTT hk0; dsimp only at hP hTT hk0; subst hP hTT hk0; unfold initSt; rw [Try.ntmps6]
  by_cases hl : zs.length ≤ 1048576
  rotate_left
  · have hl' : (1048576 : Int) < (zs.length : Int) := by omega
    (repeat (first | with_reducible refine AW.seq ?_ | ((first | refine arun_kn 4 rfl (fun C hC => ?_) | refine arunD_kn 4 rfl (fun C hC => ?_)); (repeat ((conv => whnf); simp [bytesE_len, hl'])); refine hC _ ?_; clear hC C; simp only [List.drop, Nat.reduceAdd]) | ((first | refine arun_kn 1 rfl (fun C hC => ?_) | refine arunD_kn 1 rfl (fun C hC => ?_)); (repeat ((conv => whnf); simp [bytesE_len, hl'])); refine hC _ ?_; clear hC C; simp only [List.drop, Nat.reduceAdd]) | (refine arun_skip ?_ ?_; (focus (simp [awant, bytesE_len, hl']; done))) | (refine arunD_skip ?_ ?_; (focus (simp [awant, bytesE_len, hl']; done))) | (refine AW.regionK [] (fun K hK => ?_)) | (refine AW.regionDK [] (pcs [] []) (by kernel_rfl) (by kernel_rfl) (fun K hK => ?_)) | (refine AW.condT ?_ ?_; (focus (simp [aev, bytesE_len, hl']; done))) | (refine AW.condF ?_ ?_; (focus (simp [aev, bytesE_len, hl']; done))) | with_reducible refine AW.block ?_ | ((first | ((first | refine arun_nil ?_ | refine arunD_nil ?_); refine hK _ ?_; clear hK K) | refine AW.skip ?_ | refine AW.exit ?_ | refine AW.ret ?_); simp only [thenA_exit, inBlockA_exit, if_true, if_false, Nat.reduceEqDiff, thenA_normal, inBlockA_normal, reduceIte, thenA_ret, inBlockA_ret, endQ_ret, endR_ret, endG_ret, endQ_normal, endR_normal, endG_normal])))
    exact ⟨.bool true, by simp [ares, aresL], pur_bool, rfl⟩
  have hl' : ¬ ((1048576 : Int) < (zs.length : Int)) := by omega
  (repeat (first | with_reducible refine AW.seq ?_ | ((first | refine arun_kn 4 rfl (fun C hC => ?_) | refine arunD_kn 4 rfl (fun C hC => ?_)); (repeat ((conv => whnf); simp [bytesE_len, hl'])); refine hC _ ?_; clear hC C; simp only [List.drop, Nat.reduceAdd]) | ((first | refine arun_kn 1 rfl (fun C hC => ?_) | refine arunD_kn 1 rfl (fun C hC => ?_)); (repeat ((conv => whnf); simp [bytesE_len, hl'])); refine hC _ ?_; clear hC C; simp only [List.drop, Nat.reduceAdd]) | (refine arun_skip ?_ ?_; (focus (simp [awant, bytesE_len, hl']; done))) | (refine arun_cZ (drawCompare_AC0 zs hl hb) ?_; (rintro _ ⟨a, b, ha, hb, rfl⟩)) | (refine arunD_skip ?_ ?_; (focus (simp [awant, bytesE_len, hl']; done))) | (refine AW.regionK [] (fun K hK => ?_)) | (refine AW.regionDK [] (pcs [] []) (by kernel_rfl) (by kernel_rfl) (fun K hK => ?_)) | (refine AW.condT ?_ ?_; (focus (simp [aev, bytesE_len, hl']; done))) | (refine AW.condF ?_ ?_; (focus (simp [aev, bytesE_len, hl']; done))) | with_reducible refine AW.block ?_ | ((first | ((first | refine arun_nil ?_ | refine arunD_nil ?_); refine hK _ ?_; clear hK K) | refine AW.skip ?_ | refine AW.exit ?_ | refine AW.ret ?_); simp only [thenA_exit, inBlockA_exit, if_true, if_false, Nat.reduceEqDiff, thenA_normal, inBlockA_normal, reduceIte, thenA_ret, inBlockA_ret, endQ_ret, endR_ret, endG_ret, endQ_normal, endR_normal, endG_normal])))
  have c1 := CompareNodes_AC a b
  have c2 := specCompareNodes_AC a b
  unfold nodeA at c1 c2
  rw [nodeL_eq a, nodeL_eq b] at c1 c2
  have hr := cmp2_range a b
  cases h2 : cmp2 a b == 2
  rotate_left
  · have h2' : cmp2 a b = 2 := by simpa using h2
    generalize cmp2 a b = N at *
    subst h2'
    (repeat (first | with_reducible refine AW.seq ?_ | ((first | refine arun_kn 4 rfl (fun C hC => ?_) | refine arunD_kn 4 rfl (fun C hC => ?_)); (repeat ((conv => whnf); simp)); refine hC _ ?_; clear hC C; simp only [List.drop, Nat.reduceAdd]) | ((first | refine arun_kn 1 rfl (fun C hC => ?_) | refine arunD_kn 1 rfl (fun C hC => ?_)); (repeat ((conv => whnf); simp)); refine hC _ ?_; clear hC C; simp only [List.drop, Nat.reduceAdd]) | (refine arun_skip ?_ ?_; (focus (simp [awant]; done))) | (refine arun_c0 (c1) ?_; rintro _ rfl) | (refine arun_c0 (c2) ?_; rintro _ rfl) | (refine arunD_skip ?_ ?_; (focus (simp [awant]; done))) | (refine AW.regionK [] (fun K hK => ?_)) | (refine AW.regionDK [] (pcs [] []) (by kernel_rfl) (by kernel_rfl) (fun K hK => ?_)) | (refine AW.condT ?_ ?_; (focus (simp [aev]; done))) | (refine AW.condF ?_ ?_; (focus (simp [aev]; done))) | with_reducible refine AW.block ?_ | ((first | ((first | refine arun_nil ?_ | refine arunD_nil ?_); refine hK _ ?_; clear hK K) | refine AW.skip ?_ | refine AW.exit ?_ | refine AW.ret ?_); simp only [thenA_exit, inBlockA_exit, if_true, if_false, Nat.reduceEqDiff, thenA_normal, inBlockA_normal, reduceIte, thenA_ret, inBlockA_ret, endQ_ret, endR_ret, endG_ret, endQ_normal, endR_normal, endG_normal])))
    exact ⟨.bool true, by simp [ares, aresL], pur_bool, rfl⟩
  obtain ⟨va, vb, hN⟩ := cmp2_two h2
  have c3 := CompareNodes_AC b a
  rw [cmp2_swap va vb] at c3
  have c4 := CompareNodes_AC a a
  rw [cmp2_refl va] at c4
  have c5 := equalNodeG_AC a ha b .loose .loose
  rw [eqN_cmp va vb] at c5
  unfold nodeT at c5
  rw [nodeTL_eq, nodeTL_eq] at c5
  unfold nodeA at c3 c4
  rw [nodeL_eq a, nodeL_eq b] at c3
  rw [nodeL_eq a] at c4
  have hw : IntKind.i64.wrap (-(cmp2 a b)) = -(cmp2 a b) := by rw [IntKind.wrap_i64]; omega
  generalize cmp2 a b = N at *
  (repeat (first | with_reducible refine AW.seq ?_ | ((first | refine arun_kn 4 rfl (fun C hC => ?_) | refine arunD_kn 4 rfl (fun C hC => ?_)); (repeat ((conv => whnf); simp [h2, hw])); refine hC _ ?_; clear hC C; simp only [List.drop, Nat.reduceAdd]) | ((first | refine arun_kn 1 rfl (fun C hC => ?_) | refine arunD_kn 1 rfl (fun C hC => ?_)); (repeat ((conv => whnf); simp [h2, hw])); refine hC _ ?_; clear hC C; simp only [List.drop, Nat.reduceAdd]) | (refine arun_skip ?_ ?_; (focus (simp [awant, h2, hw]; done))) | (refine arun_c0 (c1) ?_; rintro _ rfl) | (refine arun_c0 (c2) ?_; rintro _ rfl) | (refine arun_c0 (c3) ?_; rintro _ rfl) | (refine arun_c0 (c5) ?_; rintro _ rfl) | (refine arun_c0 (c4) ?_; rintro _ rfl) | (refine arunD_skip ?_ ?_; (focus (simp [awant, h2, hw]; done))) | (refine AW.regionK [] (fun K hK => ?_)) | (refine AW.regionDK [] (pcs [] []) (by kernel_rfl) (by kernel_rfl) (fun K hK => ?_)) | (refine AW.condT ?_ ?_; (focus (simp [aev, h2, hw]; done))) | (refine AW.condF ?_ ?_; (focus (simp [aev, h2, hw]; done))) | with_reducible refine AW.block ?_ | ((first | ((first | refine arun_nil ?_ | refine arunD_nil ?_); refine hK _ ?_; clear hK K) | refine AW.skip ?_ | refine AW.exit ?_ | refine AW.ret ?_); simp only [thenA_exit, inBlockA_exit, if_true, if_false, Nat.reduceEqDiff, thenA_normal, inBlockA_normal, reduceIte, thenA_ret, inBlockA_ret, endQ_ret, endR_ret, endG_ret, endQ_normal, endR_normal, endG_normal])))
  exact ⟨.bool true, by simp [ares, aresL], pur_bool, rfl⟩
theorem none_in : NoId (.agg [.int .i64 0, .int .i64 0, .str ⟨#[]⟩, .view .loose 1 [], .view .loose 5 []]) := by
  have h := node_in (U := fun _ => false) Nd.zero
  unfold nodeA at h
  rw [zeroA] at h
  exact h
theorem kind_range {n : Nd} (h : validB n = true) : 0 ≤ n.kind ∧ (n.kind = 0 → n = Nd.zero) := by
  have hp := valid_parts h
  unfold partsB at hp
  simp only [Bool.and_eq_true, Bool.or_eq_true, decide_eq_true_eq] at hp
  obtain ⟨⟨⟨h1, h2⟩, h3⟩, h4⟩ := hp
  constructor
  · split at h4
    · omega
    · split at h4
      · omega
      · split at h4
        · omega
        · split at h4
          · omega
          · split at h4
            · omega
            · simp at h4
  · intro h0
    rw [if_pos h0] at h4
    have k1 : n.num = 0 := by rcases h1 with h | h <;> omega
    have k2 : n.text = ⟨#[]⟩ := by
      rcases h2 with h | h
      · omega
      · have ht : n.text.toList = [] := by simpa using h
        exact of_decide_eq_true (by rw [← beq_toList, ht]; decide +kernel)
    have k3 : n.names = [] := by rcases h3 with h | h; · omega
                                 · exact List.length_eq_zero_iff.1 h
    have k4 : n.kids = [] := by simpa using h4
    cases n
    simp only at h0 k1 k2 k3 k4
    subst h0 k1 k2 k3 k4
    rfl
theorem cmp2_none {a : Nd} (h : validB a = true) : cmp2 Nd.zero a ≤ 0 := by
  have e : cmp2 Nd.zero a = cmpN Nd.zero a := by
    unfold cmp2
    rw [h, show validB Nd.zero = true from valid0]; rfl
  rw [e]
  obtain ⟨h0, h1⟩ := kind_range h
  by_cases hk : a.kind = 0
  · rw [h1 hk, cmpN_refl]; exact Int.le_refl _
  · rw [cmpN_th]
    have : sgnI Nd.zero.kind a.kind = -1 := by
      have hz : Nd.zero.kind = 0 := rfl
      rw [hz]; unfold sgnI; rw [if_pos (by omega)]
    unfold th
    rw [this, if_pos (by decide)]
    decide
theorem cmp2_kind {a b : Nd} (h1 : validB a = true) (h2 : validB b = true) (hk : ¬ a.kind = b.kind) : decide (cmp2 a b < 0) = decide (a.kind < b.kind) := by
  have e : cmp2 a b = cmpN a b := by unfold cmp2; rw [h1, h2]; rfl
  rw [e, cmpN_th]
  have hz : sgnI a.kind b.kind ≠ 0 := fun h => hk (sgnI_zero.1 h)
  unfold th
  rw [if_pos hz]
  unfold sgnI
  split
  · rename_i h; simp [h]
  · split
    · rename_i h h'; simp [h]
    · omega
theorem lawCmpK_AC0 (zs : List Int) (hb : ByteL zs) : AC0 Try.prog 4 [.view .loose 1 (bytesE zs)] (fun r => r = .bool true) := by
  refine AC0.of tab_ok mixed_ok Try.func4 (by rfl) (by kernel_rfl) ?_; rintro ⟨P, T, hT, hm, w0, S0, rd0, k0⟩ hP hTT hk0; dsimp only at hP hTT hk0; subst hP hTT hk0; unfold initSt; rw [Try.ntmps4]
  by_cases hl : zs.length ≤ 1048576
  rotate_left
  · have hl' : (1048576 : Int) < (zs.length : Int) := by omega
    (repeat (first | with_reducible refine AW.seq ?_ | ((first | refine arun_kn 4 rfl (fun C hC => ?_) | refine arunD_kn 4 rfl (fun C hC => ?_)); (repeat ((conv => whnf); simp [bytesE_len, hl'])); refine hC _ ?_; clear hC C; simp only [List.drop, Nat.reduceAdd]) | ((first | refine arun_kn 1 rfl (fun C hC => ?_) | refine arunD_kn 1 rfl (fun C hC => ?_)); (repeat ((conv => whnf); simp [bytesE_len, hl'])); refine hC _ ?_; clear hC C; simp only [List.drop, Nat.reduceAdd]) | (refine arun_skip ?_ ?_; (focus (simp [awant, bytesE_len, hl']; done))) | (refine arunD_skip ?_ ?_; (focus (simp [awant, bytesE_len, hl']; done))) | (refine AW.regionK [] (fun K hK => ?_)) | (refine AW.regionDK [] (pcs [] []) (by kernel_rfl) (by kernel_rfl) (fun K hK => ?_)) | (refine AW.condT ?_ ?_; (focus (simp [aev, bytesE_len, hl']; done))) | (refine AW.condF ?_ ?_; (focus (simp [aev, bytesE_len, hl']; done))) | with_reducible refine AW.block ?_ | ((first | ((first | refine arun_nil ?_ | refine arunD_nil ?_); refine hK _ ?_; clear hK K) | refine AW.skip ?_ | refine AW.exit ?_ | refine AW.ret ?_); simp only [thenA_exit, inBlockA_exit, if_true, if_false, Nat.reduceEqDiff, thenA_normal, inBlockA_normal, reduceIte, thenA_ret, inBlockA_ret, endQ_ret, endR_ret, endG_ret, endQ_normal, endR_normal, endG_normal])))
    exact ⟨.bool true, by simp [ares, aresL], pur_bool, rfl⟩
  have hl' : ¬ ((1048576 : Int) < (zs.length : Int)) := by omega
  (repeat (first | with_reducible refine AW.seq ?_ | ((first | refine arun_kn 4 rfl (fun C hC => ?_) | refine arunD_kn 4 rfl (fun C hC => ?_)); (repeat ((conv => whnf); simp [bytesE_len, hl'])); refine hC _ ?_; clear hC C; simp only [List.drop, Nat.reduceAdd]) | ((first | refine arun_kn 1 rfl (fun C hC => ?_) | refine arunD_kn 1 rfl (fun C hC => ?_)); (repeat ((conv => whnf); simp [bytesE_len, hl'])); refine hC _ ?_; clear hC C; simp only [List.drop, Nat.reduceAdd]) | (refine arun_skip ?_ ?_; (focus (simp [awant, bytesE_len, hl']; done))) | (refine arun_cZ (drawCompare_AC0 zs hl hb) ?_; (rintro _ ⟨a, b, ha, hb, rfl⟩)) | (refine arunD_skip ?_ ?_; (focus (simp [awant, bytesE_len, hl']; done))) | (refine AW.regionK [] (fun K hK => ?_)) | (refine AW.regionDK [] (pcs [] []) (by kernel_rfl) (by kernel_rfl) (fun K hK => ?_)) | (refine AW.condT ?_ ?_; (focus (simp [aev, bytesE_len, hl']; done))) | (refine AW.condF ?_ ?_; (focus (simp [aev, bytesE_len, hl']; done))) | with_reducible refine AW.block ?_ | ((first | ((first | refine arun_nil ?_ | refine arunD_nil ?_); refine hK _ ?_; clear hK K) | refine AW.skip ?_ | refine AW.exit ?_ | refine AW.ret ?_); simp only [thenA_exit, inBlockA_exit, if_true, if_false, Nat.reduceEqDiff, thenA_normal, inBlockA_normal, reduceIte, thenA_ret, inBlockA_ret, endQ_ret, endR_ret, endG_ret, endQ_normal, endR_normal, endG_normal])))
  have c1 := CompareNodes_AC a b
  have c2 := specCompareNodes_AC a b
  unfold nodeA at c1 c2
  rw [nodeL_eq a, nodeL_eq b] at c1 c2
  have hr := cmp2_range a b
  cases h2 : cmp2 a b == 2
  rotate_left
  · have h2' : cmp2 a b = 2 := by simpa using h2
    generalize cmp2 a b = N at *
    subst h2'
    (repeat (first | with_reducible refine AW.seq ?_ | ((first | refine arun_kn 4 rfl (fun C hC => ?_) | refine arunD_kn 4 rfl (fun C hC => ?_)); (repeat ((conv => whnf); simp)); refine hC _ ?_; clear hC C; simp only [List.drop, Nat.reduceAdd]) | ((first | refine arun_kn 1 rfl (fun C hC => ?_) | refine arunD_kn 1 rfl (fun C hC => ?_)); (repeat ((conv => whnf); simp)); refine hC _ ?_; clear hC C; simp only [List.drop, Nat.reduceAdd]) | (refine arun_skip ?_ ?_; (focus (simp [awant]; done))) | (refine arun_c0 (c1) ?_; rintro _ rfl) | (refine arun_c0 (c2) ?_; rintro _ rfl) | (refine arunD_skip ?_ ?_; (focus (simp [awant]; done))) | (refine AW.regionK [] (fun K hK => ?_)) | (refine AW.regionDK [] (pcs [] []) (by kernel_rfl) (by kernel_rfl) (fun K hK => ?_)) | (refine AW.condT ?_ ?_; (focus (simp [aev]; done))) | (refine AW.condF ?_ ?_; (focus (simp [aev]; done))) | with_reducible refine AW.block ?_ | ((first | ((first | refine arun_nil ?_ | refine arunD_nil ?_); refine hK _ ?_; clear hK K) | refine AW.skip ?_ | refine AW.exit ?_ | refine AW.ret ?_); simp only [thenA_exit, inBlockA_exit, if_true, if_false, Nat.reduceEqDiff, thenA_normal, inBlockA_normal, reduceIte, thenA_ret, inBlockA_ret, endQ_ret, endR_ret, endG_ret, endQ_normal, endR_normal, endG_normal])))
    exact ⟨.bool true, by simp [ares, aresL], pur_bool, rfl⟩
  obtain ⟨va, vb, hN⟩ := cmp2_two h2
  have c3 := CompareNodes_AC Nd.zero a
  have h0 := cmp2_none va
  have c4 := none_AC
  have hk := cmp2_kind va vb
  have hclo := node_clo Nd.zero
  unfold nodeA at c3 c4 hclo
  rw [nodeL_eq a] at c3
  rw [nodeL_eq Nd.zero] at c3 c4 hclo
  have z0 : Nd.zero.kind = 0 := rfl
  have z1 : Nd.zero.num = 0 := rfl
  have z2 : Nd.zero.text = ⟨#[]⟩ := rfl
  have z3 : strsE Nd.zero.names = [] := rfl
  have z4 : Nd.zero.kids.map nodeL = [] := rfl
  rw [z0, z1, z2, z3, z4] at c3 c4 hclo
  generalize cmp2 Nd.zero a = M at *
  generalize cmp2 a b = N at *
  cases hkk : a.kind == b.kind
  · have hne : ¬ a.kind = b.kind := by simpa using hkk
    have hd := hk hne
    cases hx : decide (a.kind < b.kind)
    · rw [hx] at hd
      have q1 : ¬ N < 0 := of_decide_eq_false hd
      have q2 : ¬ a.kind < b.kind := of_decide_eq_false hx
      have q3 : (0 : Int) ≤ N := by omega
      have q4 : b.kind ≤ a.kind := by omega
      (repeat (first | with_reducible refine AW.seq ?_ | ((first | refine arun_kn 4 rfl (fun C hC => ?_) | refine arunD_kn 4 rfl (fun C hC => ?_)); (repeat ((conv => whnf); simp [h2, hkk, hne, q1, q2, q3, q4, h0])); refine hC _ ?_; clear hC C; simp only [List.drop, Nat.reduceAdd]) | ((first | refine arun_kn 1 rfl (fun C hC => ?_) | refine arunD_kn 1 rfl (fun C hC => ?_)); (repeat ((conv => whnf); simp [h2, hkk, hne, q1, q2, q3, q4, h0])); refine hC _ ?_; clear hC C; simp only [List.drop, Nat.reduceAdd]) | (refine arun_skip ?_ ?_; (focus (simp [awant, h2, hkk, hne, q1, q2, q3, q4, h0]; done))) | (refine arun_c0 (c1) ?_; rintro _ rfl) | (refine arun_c0 (c2) ?_; rintro _ rfl) | (refine arun_c0 (c4) ?_; rintro _ rfl) | (refine arun_c0 (c3) ?_; rintro _ rfl) | (refine arunD_skip ?_ ?_; (focus (simp [awant, h2, hkk, hne, q1, q2, q3, q4, h0]; done))) | (refine arunD_c (0) (c1) ?_; rintro _ rfl; intro _) | (refine arunD_c (0) (c2) ?_; rintro _ rfl; intro _) | (refine arunD_cE (0) (c4) (by exact ⟨_, rfl, none_in⟩) ?_; rintro _ rfl; intro _) | (refine arunD_c (0) (c3) ?_; rintro _ rfl; intro _) | (refine AW.regionK [] (fun K hK => ?_)) | (refine AW.regionDK [] (pcs [(16, 0, fun r => r = .agg [.int .i64 0, .int .i64 0, .str ⟨#[]⟩, .view .loose 1 [], .view .loose 5 []]), (18, 0, fun r => r = .int .i64 M)] []) (by kernel_rfl) (by kernel_rfl) (fun K hK => ?_)) | (refine AW.condT ?_ ?_; (focus (simp [aev, h2, hkk, hne, q1, q2, q3, q4, h0]; done))) | (refine AW.condF ?_ ?_; (focus (simp [aev, h2, hkk, hne, q1, q2, q3, q4, h0]; done))) | with_reducible refine AW.block ?_ | ((first | ((first | refine arun_nil ?_ | refine arunD_nil ?_); refine hK _ ?_; clear hK K) | refine AW.skip ?_ | refine AW.exit ?_ | refine AW.ret ?_); simp only [thenA_exit, inBlockA_exit, if_true, if_false, Nat.reduceEqDiff, thenA_normal, inBlockA_normal, reduceIte, thenA_ret, inBlockA_ret, endQ_ret, endR_ret, endG_ret, endQ_normal, endR_normal, endG_normal])))
      exact ⟨.bool true, by simp [ares, aresL], pur_bool, rfl⟩
    · rw [hx] at hd
      have q1 : N < 0 := of_decide_eq_true hd
      have q2 : a.kind < b.kind := of_decide_eq_true hx
      (repeat (first | with_reducible refine AW.seq ?_ | ((first | refine arun_kn 4 rfl (fun C hC => ?_) | refine arunD_kn 4 rfl (fun C hC => ?_)); (repeat ((conv => whnf); simp [h2, hkk, hne, q1, q2, h0])); refine hC _ ?_; clear hC C; simp only [List.drop, Nat.reduceAdd]) | ((first | refine arun_kn 1 rfl (fun C hC => ?_) | refine arunD_kn 1 rfl (fun C hC => ?_)); (repeat ((conv => whnf); simp [h2, hkk, hne, q1, q2, h0])); refine hC _ ?_; clear hC C; simp only [List.drop, Nat.reduceAdd]) | (refine arun_skip ?_ ?_; (focus (simp [awant, h2, hkk, hne, q1, q2, h0]; done))) | (refine arun_c0 (c1) ?_; rintro _ rfl) | (refine arun_c0 (c2) ?_; rintro _ rfl) | (refine arun_c0 (c4) ?_; rintro _ rfl) | (refine arun_c0 (c3) ?_; rintro _ rfl) | (refine arunD_skip ?_ ?_; (focus (simp [awant, h2, hkk, hne, q1, q2, h0]; done))) | (refine arunD_c (0) (c1) ?_; rintro _ rfl; intro _) | (refine arunD_c (0) (c2) ?_; rintro _ rfl; intro _) | (refine arunD_cE (0) (c4) (by exact ⟨_, rfl, none_in⟩) ?_; rintro _ rfl; intro _) | (refine arunD_c (0) (c3) ?_; rintro _ rfl; intro _) | (refine AW.regionK [] (fun K hK => ?_)) | (refine AW.regionDK [] (pcs [(16, 0, fun r => r = .agg [.int .i64 0, .int .i64 0, .str ⟨#[]⟩, .view .loose 1 [], .view .loose 5 []]), (18, 0, fun r => r = .int .i64 M)] []) (by kernel_rfl) (by kernel_rfl) (fun K hK => ?_)) | (refine AW.condT ?_ ?_; (focus (simp [aev, h2, hkk, hne, q1, q2, h0]; done))) | (refine AW.condF ?_ ?_; (focus (simp [aev, h2, hkk, hne, q1, q2, h0]; done))) | with_reducible refine AW.block ?_ | ((first | ((first | refine arun_nil ?_ | refine arunD_nil ?_); refine hK _ ?_; clear hK K) | refine AW.skip ?_ | refine AW.exit ?_ | refine AW.ret ?_); simp only [thenA_exit, inBlockA_exit, if_true, if_false, Nat.reduceEqDiff, thenA_normal, inBlockA_normal, reduceIte, thenA_ret, inBlockA_ret, endQ_ret, endR_ret, endG_ret, endQ_normal, endR_normal, endG_normal])))
      exact ⟨.bool true, by simp [ares, aresL], pur_bool, rfl⟩
  · (repeat (first | with_reducible refine AW.seq ?_ | ((first | refine arun_kn 4 rfl (fun C hC => ?_) | refine arunD_kn 4 rfl (fun C hC => ?_)); (repeat ((conv => whnf); simp [h2, hkk, h0])); refine hC _ ?_; clear hC C; simp only [List.drop, Nat.reduceAdd]) | ((first | refine arun_kn 1 rfl (fun C hC => ?_) | refine arunD_kn 1 rfl (fun C hC => ?_)); (repeat ((conv => whnf); simp [h2, hkk, h0])); refine hC _ ?_; clear hC C; simp only [List.drop, Nat.reduceAdd]) | (refine arun_skip ?_ ?_; (focus (simp [awant, h2, hkk, h0]; done))) | (refine arun_c0 (c1) ?_; rintro _ rfl) | (refine arun_c0 (c2) ?_; rintro _ rfl) | (refine arun_c0 (c4) ?_; rintro _ rfl) | (refine arun_c0 (c3) ?_; rintro _ rfl) | (refine arunD_skip ?_ ?_; (focus (simp [awant, h2, hkk, h0]; done))) | (refine arunD_c (0) (c1) ?_; rintro _ rfl; intro _) | (refine arunD_c (0) (c2) ?_; rintro _ rfl; intro _) | (refine arunD_cE (0) (c4) (by exact ⟨_, rfl, none_in⟩) ?_; rintro _ rfl; intro _) | (refine arunD_c (0) (c3) ?_; rintro _ rfl; intro _) | (refine AW.regionK [] (fun K hK => ?_)) | (refine AW.regionDK [] (pcs [(16, 0, fun r => r = .agg [.int .i64 0, .int .i64 0, .str ⟨#[]⟩, .view .loose 1 [], .view .loose 5 []]), (18, 0, fun r => r = .int .i64 M)] []) (by kernel_rfl) (by kernel_rfl) (fun K hK => ?_)) | (refine AW.condT ?_ ?_; (focus (simp [aev, h2, hkk, h0]; done))) | (refine AW.condF ?_ ?_; (focus (simp [aev, h2, hkk, h0]; done))) | with_reducible refine AW.block ?_ | ((first | ((first | refine arun_nil ?_ | refine arunD_nil ?_); refine hK _ ?_; clear hK K) | refine AW.skip ?_ | refine AW.exit ?_ | refine AW.ret ?_); simp only [thenA_exit, inBlockA_exit, if_true, if_false, Nat.reduceEqDiff, thenA_normal, inBlockA_normal, reduceIte, thenA_ret, inBlockA_ret, endQ_ret, endR_ret, endG_ret, endQ_normal, endR_normal, endG_normal])))
    exact ⟨.bool true, by simp [ares, aresL], pur_bool, rfl⟩
def threeL (k : Int) : List Nd := [Nd.zero, ⟨1, k, ⟨#[]⟩, [], []⟩, ⟨2, 0, ⟨#[98]⟩, [], []⟩, ⟨3, 0, ⟨#[]⟩, [], []⟩, ⟨4, 0, ⟨#[]⟩, [], []⟩]
theorem cmp2_tri {a b c : Nd} (h1 : validB a = true) (h2 : validB b = true) (h3 : cmp2 a b ≤ 0) (h4 : cmp2 b c ≤ 0) : cmp2 a c ≤ 0 := by
  cases vc : validB c
  · unfold cmp2 at h4; rw [h2, vc] at h4; simp at h4
  · have e1 : cmp2 a b = cmpN a b := by unfold cmp2; rw [h1, h2]; rfl
    have e2 : cmp2 b c = cmpN b c := by unfold cmp2; rw [h2, vc]; rfl
    have e3 : cmp2 a c = cmpN a c := by unfold cmp2; rw [h1, vc]; rfl
    rw [e3]
    exact (cmpN_tri a b c (by omega) (by omega)).1
theorem three_wk (k : Int) : Wk (.view .tight 5 [[.int .i64 0, .int .i64 0, .str ⟨#[]⟩, .view .loose 1 [], .view .loose 5 []], [.int .i64 1, .int .i64 k, .str ⟨#[]⟩, .view .loose 1 [], .view .loose 5 []], [.int .i64 2, .int .i64 0, .str ⟨#[98]⟩, .view .tight 0 [], .view .tight 0 []], [.int .i64 3, .int .i64 0, .str ⟨#[]⟩, .view .tight 0 [], .view .tight 0 []], [.int .i64 4, .int .i64 0, .str ⟨#[]⟩, .view .tight 0 [], .view .tight 0 []]]) (.view .loose 5 ((threeL k).map nodeL)) := by
  unfold threeL
  simp only [List.map_cons, List.map_nil, nodeL_eq]
  have hz : WkL [.int .i64 0, .int .i64 0, .str ⟨#[]⟩, .view .tight 0 [], .view .tight 0 []] [.int .i64 0, .int .i64 0, .str ⟨#[]⟩, .view .loose 1 [], .view .loose 5 []] := .cons (Wk.refl _) (.cons (Wk.refl _) (.cons (Wk.refl _) (.cons (Wk.nil (fun h => by cases h)) (.cons (Wk.nil (fun h => by cases h)) .nil))))
  have hx : ∀ (k m : Int) (x : ByteArray), WkL [.int .i64 k, .int .i64 m, .str x, .view .tight 0 [], .view .tight 0 []] [.int .i64 k, .int .i64 m, .str x, .view .loose 1 [], .view .loose 5 []] := fun k m x => .cons (Wk.refl _) (.cons (Wk.refl _) (.cons (Wk.refl _) (.cons (Wk.nil (fun h => by cases h)) (.cons (Wk.nil (fun h => by cases h)) .nil))))
  exact Wk.view (by decide) (.cons (WkL.refl _) (.cons (WkL.refl _) (.cons (hx 2 0 _) (.cons (hx 3 0 _) (.cons (hx 4 0 _) .nil)))))
theorem threeL_len (k : Int) : (threeL k).length = 5 := rfl
theorem lawCmpT_AC0 (zs : List Int) (hb : ByteL zs) : AC0 Try.prog 5 [.view .loose 1 (bytesE zs)] (fun r => r = .bool true) := by
  refine AC0.of tab_ok mixed_ok Try.func5 (by rfl) (by kernel_rfl) ?_; rintro ⟨P, T, hT, hm, w0, S0, rd0, k0⟩ hP hTT hk0; dsimp only at hP hTT hk0; subst hP hTT hk0; unfold initSt; rw [Try.ntmps5]
  by_cases hl : zs.length ≤ 1048576
  rotate_left
  · have hl' : (1048576 : Int) < (zs.length : Int) := by omega
    (repeat (first | with_reducible refine AW.seq ?_ | ((first | refine arun_kn 4 rfl (fun C hC => ?_) | refine arunD_kn 4 rfl (fun C hC => ?_)); (repeat ((conv => whnf); simp [bytesE_len, hl'])); refine hC _ ?_; clear hC C; simp only [List.drop, Nat.reduceAdd]) | ((first | refine arun_kn 1 rfl (fun C hC => ?_) | refine arunD_kn 1 rfl (fun C hC => ?_)); (repeat ((conv => whnf); simp [bytesE_len, hl'])); refine hC _ ?_; clear hC C; simp only [List.drop, Nat.reduceAdd]) | (refine arun_skip ?_ ?_; (focus (simp [awant, bytesE_len, hl']; done))) | (refine arunD_skip ?_ ?_; (focus (simp [awant, bytesE_len, hl']; done))) | (refine AW.regionK [] (fun K hK => ?_)) | (refine AW.regionDK [] (pcs [] []) (by kernel_rfl) (by kernel_rfl) (fun K hK => ?_)) | (refine AW.condT ?_ ?_; (focus (simp [aev, bytesE_len, hl']; done))) | (refine AW.condF ?_ ?_; (focus (simp [aev, bytesE_len, hl']; done))) | with_reducible refine AW.block ?_ | ((first | ((first | refine arun_nil ?_ | refine arunD_nil ?_); refine hK _ ?_; clear hK K) | refine AW.skip ?_ | refine AW.exit ?_ | refine AW.ret ?_); simp only [thenA_exit, inBlockA_exit, if_true, if_false, Nat.reduceEqDiff, thenA_normal, inBlockA_normal, reduceIte, thenA_ret, inBlockA_ret, endQ_ret, endR_ret, endG_ret, endQ_normal, endR_normal, endG_normal])))
    exact ⟨.bool true, by simp [ares, aresL], pur_bool, rfl⟩
  have hl' : ¬ ((1048576 : Int) < (zs.length : Int)) := by omega
  (repeat (first | with_reducible refine AW.seq ?_ | ((first | refine arun_kn 4 rfl (fun C hC => ?_) | refine arunD_kn 4 rfl (fun C hC => ?_)); (repeat ((conv => whnf); simp [bytesE_len, hl'])); refine hC _ ?_; clear hC C; simp only [List.drop, Nat.reduceAdd]) | ((first | refine arun_kn 1 rfl (fun C hC => ?_) | refine arunD_kn 1 rfl (fun C hC => ?_)); (repeat ((conv => whnf); simp [bytesE_len, hl'])); refine hC _ ?_; clear hC C; simp only [List.drop, Nat.reduceAdd]) | (refine arun_skip ?_ ?_; (focus (simp [awant, bytesE_len, hl']; done))) | (refine arun_cZ (drawCompare_AC0 zs hl hb) ?_; (rintro _ ⟨a, b, ha, hb, rfl⟩)) | (refine arunD_skip ?_ ?_; (focus (simp [awant, bytesE_len, hl']; done))) | (refine AW.regionK [] (fun K hK => ?_)) | (refine AW.regionDK [] (pcs [] []) (by kernel_rfl) (by kernel_rfl) (fun K hK => ?_)) | (refine AW.condT ?_ ?_; (focus (simp [aev, bytesE_len, hl']; done))) | (refine AW.condF ?_ ?_; (focus (simp [aev, bytesE_len, hl']; done))) | with_reducible refine AW.block ?_ | ((first | ((first | refine arun_nil ?_ | refine arunD_nil ?_); refine hK _ ?_; clear hK K) | refine AW.skip ?_ | refine AW.exit ?_ | refine AW.ret ?_); simp only [thenA_exit, inBlockA_exit, if_true, if_false, Nat.reduceEqDiff, thenA_normal, inBlockA_normal, reduceIte, thenA_ret, inBlockA_ret, endQ_ret, endR_ret, endG_ret, endQ_normal, endR_normal, endG_normal])))
  have c1 := CompareNodes_AC a b
  have c2 := specCompareNodes_AC a b
  unfold nodeA at c1 c2
  rw [nodeL_eq a, nodeL_eq b] at c1 c2
  have hr := cmp2_range a b
  cases h2 : cmp2 a b == 2
  rotate_left
  · have h2' : cmp2 a b = 2 := by simpa using h2
    generalize cmp2 a b = N at *
    subst h2'
    (repeat (first | with_reducible refine AW.seq ?_ | ((first | refine arun_kn 4 rfl (fun C hC => ?_) | refine arunD_kn 4 rfl (fun C hC => ?_)); (repeat ((conv => whnf); simp)); refine hC _ ?_; clear hC C; simp only [List.drop, Nat.reduceAdd]) | ((first | refine arun_kn 1 rfl (fun C hC => ?_) | refine arunD_kn 1 rfl (fun C hC => ?_)); (repeat ((conv => whnf); simp)); refine hC _ ?_; clear hC C; simp only [List.drop, Nat.reduceAdd]) | (refine arun_skip ?_ ?_; (focus (simp [awant]; done))) | (refine arun_c0 (c1) ?_; rintro _ rfl) | (refine arun_c0 (c2) ?_; rintro _ rfl) | (refine arunD_skip ?_ ?_; (focus (simp [awant]; done))) | (refine AW.regionK [] (fun K hK => ?_)) | (refine AW.regionDK [] (pcs [] []) (by kernel_rfl) (by kernel_rfl) (fun K hK => ?_)) | (refine AW.condT ?_ ?_; (focus (simp [aev]; done))) | (refine AW.condF ?_ ?_; (focus (simp [aev]; done))) | with_reducible refine AW.block ?_ | ((first | ((first | refine arun_nil ?_ | refine arunD_nil ?_); refine hK _ ?_; clear hK K) | refine AW.skip ?_ | refine AW.exit ?_ | refine AW.ret ?_); simp only [thenA_exit, inBlockA_exit, if_true, if_false, Nat.reduceEqDiff, thenA_normal, inBlockA_normal, reduceIte, thenA_ret, inBlockA_ret, endQ_ret, endR_ret, endG_ret, endQ_normal, endR_normal, endG_normal])))
    exact ⟨.bool true, by simp [ares, aresL], pur_bool, rfl⟩
  obtain ⟨va, vb, hN⟩ := cmp2_two h2
  have c4 := none_AC
  have c5 := number_AC
  unfold nodeA at c4 c5
  rw [show nodeL Nd.zero = [.int .i64 0, .int .i64 0, .str ⟨#[]⟩, .view .loose 1 [], .view .loose 5 []] from zeroA] at c4
  have hnum : ∀ k, AC Try.prog 23 [.int .i64 k] 0 (fun r => r = .agg [.int .i64 1, .int .i64 k, .str ⟨#[]⟩, .view .loose 1 [], .view .loose 5 []]) := fun k => by
    have := c5 k
    rw [nodeL_eq] at this
    exact this
  have c6 := hnum ((zs.length : Int).tmod 9)
  (repeat (first | with_reducible refine AW.seq ?_ | ((first | refine arun_kn 4 rfl (fun C hC => ?_) | refine arunD_kn 4 rfl (fun C hC => ?_)); (repeat ((conv => whnf); simp [h2, bytesE_len])); refine hC _ ?_; clear hC C; simp only [List.drop, Nat.reduceAdd]) | ((first | refine arun_kn 1 rfl (fun C hC => ?_) | refine arunD_kn 1 rfl (fun C hC => ?_)); (repeat ((conv => whnf); simp [h2, bytesE_len])); refine hC _ ?_; clear hC C; simp only [List.drop, Nat.reduceAdd]) | (refine arun_skip ?_ ?_; (focus (simp [awant, h2, bytesE_len]; done))) | (refine arun_c0 (c1) ?_; rintro _ rfl) | (refine arun_c0 (c2) ?_; rintro _ rfl) | (refine arun_c0 (c4) ?_; rintro _ rfl) | (refine arun_c0 (c6) ?_; rintro _ rfl) | (refine arunD_skip ?_ ?_; (focus (simp [awant, h2, bytesE_len]; done))) | (refine AW.regionK [] (fun K hK => ?_)) | (refine AW.regionDK [] (pcs [] []) (by kernel_rfl) (by kernel_rfl) (fun K hK => ?_)) | (refine AW.condT ?_ ?_; (focus (simp [aev, h2, bytesE_len]; done))) | (refine AW.condF ?_ ?_; (focus (simp [aev, h2, bytesE_len]; done))) | with_reducible refine AW.block ?_ | ((first | ((first | refine arun_nil ?_ | refine arunD_nil ?_); refine hK _ ?_; clear hK K) | refine AW.skip ?_ | refine AW.exit ?_ | refine AW.ret ?_); simp only [thenA_exit, inBlockA_exit, if_true, if_false, Nat.reduceEqDiff, thenA_normal, inBlockA_normal, reduceIte, thenA_ret, inBlockA_ret, endQ_ret, endR_ret, endG_ret, endQ_normal, endR_normal, endG_normal])))
  refine AW.wkT 6 (.view .loose 5 ((threeL ((zs.length : Int).tmod 9)).map nodeL)) (three_wk _) (by simp) ?_
  have hL : (threeL ((zs.length : Int).tmod 9)).length ≤ 5 := by rw [threeL_len]; exact Nat.le_refl _
  have hclo : Clo (.view .loose 5 ((threeL ((zs.length : Int).tmod 9)).map nodeL)) := nodes_clo _
  generalize threeL ((zs.length : Int).tmod 9) = L at *
  refine AW.loopS (fun (i : Nat) => mkSt (slots 0 68 [(3, .ptr true 5 1 3 0 0), (4, .ptr true 5 1 4 0 0), (5, .int .i64 (cmp2 a b)), (6, .view .loose 5 (L.map nodeL)), (7, .int .i64 i)]) [(3, ⟨true, 30, 5, [nodeL a]⟩), (4, ⟨true, 30, 5, [nodeL b]⟩)] [3, 4] none) (fun i => L.length - i) (fun i => i ≤ L.length) 0 ?_ (Nat.zero_le _) ?_
  · rw [nodeL_eq, nodeL_eq]
    exact less_a
  · intro i hi
    rw [nodeL_eq a, nodeL_eq b]
    by_cases hlt : i < L.length
    · have hw : IntKind.i64.wrap ((i : Int) + 1) = (i : Int) + 1 := i64_nat (by omega) (by omega)
      have c7 := CompareNodes_AC b L[i]
      have c8 := CompareNodes_AC a L[i]
      have ht := cmp2_tri (c := L[i]) va vb
      unfold nodeA at c7 c8
      rw [nodeL_eq b, nodeL_eq] at c7
      rw [nodeL_eq a, nodeL_eq] at c8
      generalize cmp2 a b = N at *
      generalize cmp2 b L[i] = M at *
      generalize cmp2 a L[i] = R at *
      rcases Int.lt_or_le 0 N with h0 | h0
      · have h0' : ¬ N ≤ 0 := by omega
        (repeat (first | with_reducible refine AW.seq ?_ | ((first | refine arun_kn 4 rfl (fun C hC => ?_) | refine arunD_kn 4 rfl (fun C hC => ?_)); (repeat ((conv => whnf); simp [hlt, hw, List.length_map, h0, h0'])); refine hC _ ?_; clear hC C; simp only [List.drop, Nat.reduceAdd]) | ((first | refine arun_kn 1 rfl (fun C hC => ?_) | refine arunD_kn 1 rfl (fun C hC => ?_)); (repeat ((conv => whnf); simp [hlt, hw, List.length_map, h0, h0'])); refine hC _ ?_; clear hC C; simp only [List.drop, Nat.reduceAdd]) | (refine arun_skip ?_ ?_; (focus (simp [awant, hlt, hw, List.length_map, h0, h0']; done))) | (refine arun_c0 (c7) ?_; rintro _ rfl) | (refine arun_c0 (c8) ?_; rintro _ rfl) | (refine arunD_skip ?_ ?_; (focus (simp [awant, hlt, hw, List.length_map, h0, h0']; done))) | (refine arunD_c (0) (c7) ?_; rintro _ rfl; intro _) | (refine arunD_c (0) (c8) ?_; rintro _ rfl; intro _) | (refine AW.regionK [] (fun K hK => ?_)) | (refine AW.regionDK [] (pcs [(8, 0, fun r => r = .int .i64 M), (17, 0, fun r => r = .int .i64 R)] []) (by kernel_rfl) (by kernel_rfl) (fun K hK => ?_)) | (refine AW.condT ?_ ?_; (focus (simp [aev, hlt, hw, List.length_map, h0, h0']; done))) | (refine AW.condF ?_ ?_; (focus (simp [aev, hlt, hw, List.length_map, h0, h0']; done))) | with_reducible refine AW.block ?_ | ((first | ((first | refine arun_nil ?_ | refine arunD_nil ?_); refine hK _ ?_; clear hK K) | refine AW.skip ?_ | refine AW.exit ?_ | refine AW.ret ?_); simp only [thenA_exit, inBlockA_exit, if_true, if_false, Nat.reduceEqDiff, thenA_normal, inBlockA_normal, reduceIte, thenA_ret, inBlockA_ret, endQ_ret, endR_ret, endG_ret, endQ_normal, endR_normal, endG_normal])))
        exact ⟨i + 1, by omega, by omega, less_a⟩
      · have h0' : ¬ 0 < N := by omega
        rcases Int.lt_or_le 0 M with h1 | h1
        · have h1' : ¬ M ≤ 0 := by omega
          (repeat (first | with_reducible refine AW.seq ?_ | ((first | refine arun_kn 4 rfl (fun C hC => ?_) | refine arunD_kn 4 rfl (fun C hC => ?_)); (repeat ((conv => whnf); simp [hlt, hw, List.length_map, h0, h0', h1, h1'])); refine hC _ ?_; clear hC C; simp only [List.drop, Nat.reduceAdd]) | ((first | refine arun_kn 1 rfl (fun C hC => ?_) | refine arunD_kn 1 rfl (fun C hC => ?_)); (repeat ((conv => whnf); simp [hlt, hw, List.length_map, h0, h0', h1, h1'])); refine hC _ ?_; clear hC C; simp only [List.drop, Nat.reduceAdd]) | (refine arun_skip ?_ ?_; (focus (simp [awant, hlt, hw, List.length_map, h0, h0', h1, h1']; done))) | (refine arun_c0 (c7) ?_; rintro _ rfl) | (refine arun_c0 (c8) ?_; rintro _ rfl) | (refine arunD_skip ?_ ?_; (focus (simp [awant, hlt, hw, List.length_map, h0, h0', h1, h1']; done))) | (refine arunD_c (0) (c7) ?_; rintro _ rfl; intro _) | (refine arunD_c (0) (c8) ?_; rintro _ rfl; intro _) | (refine AW.regionK [] (fun K hK => ?_)) | (refine AW.regionDK [] (pcs [(8, 0, fun r => r = .int .i64 M), (17, 0, fun r => r = .int .i64 R)] []) (by kernel_rfl) (by kernel_rfl) (fun K hK => ?_)) | (refine AW.condT ?_ ?_; (focus (simp [aev, hlt, hw, List.length_map, h0, h0', h1, h1']; done))) | (refine AW.condF ?_ ?_; (focus (simp [aev, hlt, hw, List.length_map, h0, h0', h1, h1']; done))) | with_reducible refine AW.block ?_ | ((first | ((first | refine arun_nil ?_ | refine arunD_nil ?_); refine hK _ ?_; clear hK K) | refine AW.skip ?_ | refine AW.exit ?_ | refine AW.ret ?_); simp only [thenA_exit, inBlockA_exit, if_true, if_false, Nat.reduceEqDiff, thenA_normal, inBlockA_normal, reduceIte, thenA_ret, inBlockA_ret, endQ_ret, endR_ret, endG_ret, endQ_normal, endR_normal, endG_normal])))
          exact ⟨i + 1, by omega, by omega, less_a⟩
        · have h1' : ¬ 0 < M := by omega
          have h2 := ht h0 h1
          have h2' : ¬ 0 < R := by omega
          (repeat (first | with_reducible refine AW.seq ?_ | ((first | refine arun_kn 4 rfl (fun C hC => ?_) | refine arunD_kn 4 rfl (fun C hC => ?_)); (repeat ((conv => whnf); simp [hlt, hw, List.length_map, h0, h0', h1, h1', h2, h2'])); refine hC _ ?_; clear hC C; simp only [List.drop, Nat.reduceAdd]) | ((first | refine arun_kn 1 rfl (fun C hC => ?_) | refine arunD_kn 1 rfl (fun C hC => ?_)); (repeat ((conv => whnf); simp [hlt, hw, List.length_map, h0, h0', h1, h1', h2, h2'])); refine hC _ ?_; clear hC C; simp only [List.drop, Nat.reduceAdd]) | (refine arun_skip ?_ ?_; (focus (simp [awant, hlt, hw, List.length_map, h0, h0', h1, h1', h2, h2']; done))) | (refine arun_c0 (c7) ?_; rintro _ rfl) | (refine arun_c0 (c8) ?_; rintro _ rfl) | (refine arunD_skip ?_ ?_; (focus (simp [awant, hlt, hw, List.length_map, h0, h0', h1, h1', h2, h2']; done))) | (refine arunD_c (0) (c7) ?_; rintro _ rfl; intro _) | (refine arunD_c (0) (c8) ?_; rintro _ rfl; intro _) | (refine AW.regionK [] (fun K hK => ?_)) | (refine AW.regionDK [] (pcs [(8, 0, fun r => r = .int .i64 M), (17, 0, fun r => r = .int .i64 R)] []) (by kernel_rfl) (by kernel_rfl) (fun K hK => ?_)) | (refine AW.condT ?_ ?_; (focus (simp [aev, hlt, hw, List.length_map, h0, h0', h1, h1', h2, h2']; done))) | (refine AW.condF ?_ ?_; (focus (simp [aev, hlt, hw, List.length_map, h0, h0', h1, h1', h2, h2']; done))) | with_reducible refine AW.block ?_ | ((first | ((first | refine arun_nil ?_ | refine arunD_nil ?_); refine hK _ ?_; clear hK K) | refine AW.skip ?_ | refine AW.exit ?_ | refine AW.ret ?_); simp only [thenA_exit, inBlockA_exit, if_true, if_false, Nat.reduceEqDiff, thenA_normal, inBlockA_normal, reduceIte, thenA_ret, inBlockA_ret, endQ_ret, endR_ret, endG_ret, endQ_normal, endR_normal, endG_normal])))
          exact ⟨i + 1, by omega, by omega, less_a⟩
    · (repeat (first | with_reducible refine AW.seq ?_ | ((first | refine arun_kn 4 rfl (fun C hC => ?_) | refine arunD_kn 4 rfl (fun C hC => ?_)); (repeat ((conv => whnf); simp [hlt, List.length_map])); refine hC _ ?_; clear hC C; simp only [List.drop, Nat.reduceAdd]) | ((first | refine arun_kn 1 rfl (fun C hC => ?_) | refine arunD_kn 1 rfl (fun C hC => ?_)); (repeat ((conv => whnf); simp [hlt, List.length_map])); refine hC _ ?_; clear hC C; simp only [List.drop, Nat.reduceAdd]) | (refine arun_skip ?_ ?_; (focus (simp [awant, hlt, List.length_map]; done))) | (refine arunD_skip ?_ ?_; (focus (simp [awant, hlt, List.length_map]; done))) | (refine AW.regionK [] (fun K hK => ?_)) | (refine AW.regionDK [] (pcs [] []) (by kernel_rfl) (by kernel_rfl) (fun K hK => ?_)) | (refine AW.condT ?_ ?_; (focus (simp [aev, hlt, List.length_map]; done))) | (refine AW.condF ?_ ?_; (focus (simp [aev, hlt, List.length_map]; done))) | with_reducible refine AW.block ?_ | ((first | ((first | refine arun_nil ?_ | refine arunD_nil ?_); refine hK _ ?_; clear hK K) | refine AW.skip ?_ | refine AW.exit ?_ | refine AW.ret ?_); simp only [thenA_exit, inBlockA_exit, if_true, if_false, Nat.reduceEqDiff, thenA_normal, inBlockA_normal, reduceIte, thenA_ret, inBlockA_ret, endQ_ret, endR_ret, endG_ret, endQ_normal, endR_normal, endG_normal])))
      exact ⟨.bool true, by simp [ares, aresL], pur_bool, rfl⟩
end Go.Proofs.Ytiobnaielfeeaaa.Eng
