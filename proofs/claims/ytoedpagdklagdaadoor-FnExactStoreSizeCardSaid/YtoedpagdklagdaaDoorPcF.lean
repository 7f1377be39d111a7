/-
  Texts of this claim, joined.
-/
import Derived.Laws.MakeOwn
import Derived.Test.YtoedpagdklagdaaDoorRows
import Derived.Lib.LaidTab
import Derived.LaidSub
import Derived.LaidMore
import Derived.MakeChecks
import Derived.Test.YtoedpagdklagdaaDoorPcE

set_option linter.unusedSimpArgs false
set_option linter.unusedVariables false
set_option linter.unnecessarySimpa false
set_option maxRecDepth 100000
set_option maxHeartbeats 16000000
namespace Go.Proofs.YtoedpagdklagdaaDoor
open Go.RowKit
def Tb (B : Nat) (w : World) : Prop := ∃ g, Tryd.prog.globalNamed "internal/strconv.uint64pow10" = some g ∧ g < B ∧ Lib.TabIs Tryd.prog w "internal/strconv.uint64pow10" .u64 Lib.pow10Tab
theorem Tb.below {B : Nat} {w w' : World} (h : Tb B w) (k : Below B w w') : Tb B w' := by
  obtain ⟨g, h1, h2, h3⟩ := h
  refine ⟨g, h1, h2, ?_⟩
  unfold Lib.TabIs World.var? at h3 ⊢
  rw [h1] at h3 ⊢
  simp only [Option.bind_some] at h3 ⊢
  rw [k.block g h2]
  exact h3
theorem Kp.alloc {B b : Nat} {u w : World} (h : Kp B b u w) (hB : B ≤ w.heap.size) (o : Obj) : Kp B b u (w.alloc o) := ⟨h.below.alloc hB o, h.others.alloc o⟩
theorem Kp.drew {B b : Nat} {u w : World} (h : Kp B b u w) : Kp B b u w.drew := ⟨h.below.drew, h.others.drew⟩
theorem Kp.le {B b : Nat} {u w : World} (h : Kp B b u w) (hB : B ≤ u.heap.size) : B ≤ w.heap.size := Nat.le_trans hB h.below.size
theorem Kp.obj {B b : Nat} {w w' : World} (h : Kp B b w w') {k : Nat} {cs : Array Value} {T : TypeId} {fz : Nat × Nat} (hk : w.heap[k]? = some (.cells cs T fz)) (hT : T ≠ TU) (hb : k ≠ b) : w'.heap[k]? = some (.cells cs T fz) :=
  h.others k _ hk (fun e => hb (Option.some.inj e)) (fun c f e => hT (by cases e; rfl))
theorem Kp.box5 {B b : Nat} {w w' : World} {a0 a1 a2 a3 a4 : Value} {T : TypeId} (h : Kp B b (w.alloc (.cells #[a0, a1, a2, a3, a4] T)) w') (hT : T ≠ TU) (hb : w.heap.size ≠ b) :
    w'.cell? ⟨w.heap.size, 0, none⟩ = some a0 ∧ w'.cell? ⟨w.heap.size, 1, none⟩ = some a1 ∧ w'.cell? ⟨w.heap.size, 2, none⟩ = some a2 ∧ w'.cell? ⟨w.heap.size, 3, none⟩ = some a3 ∧ w'.cell? ⟨w.heap.size, 4, none⟩ = some a4 := by
  have := h.obj (heap_alloc_new w _) hT hb
  refine ⟨?_, ?_, ?_, ?_, ?_⟩ <;> (rw [Lib.cell_of_heap this]; rfl)
theorem NodeR.below {B : Nat} {w w' : World} {n : Nd} {v : Value} (h : NodeR w (· < B) n v) (hg : Below B w w') : NodeR w' (· < B) n v :=
  h.ext (X := fun k => ¬ k < B) ⟨hg.os, hg.tape, hg.output, hg.size, fun k _ hx => hg.block k (Decidable.not_not.1 hx)⟩ (fun k hk hx => hx hk)
theorem Bd.grown {B b : Nat} {l : List UInt8} {w w' : World} (h : Bd B b l w) (hg : w.grownBy w' none) : Bd B b l w' := by
  have one : ∀ p, Bl B b p (Lib.byteCells l) w → Bl B b p (Lib.byteCells l) w' := by
    rintro p ⟨hB, v, hb, hown, hne⟩
    have hlt : b < w.heap.size := Lib.BuilderAtF.lt ⟨hB, v, hb, hown, hne⟩
    refine ⟨hB, v, (hg.block b hlt (by simp)).trans hb, hown.kept hg ?_, hne⟩
    cases hv : v.ownBlock
    · exact .inl rfl
    · exact .inr (by simp)
  exact h.elim (fun x => .inl (one _ x)) (fun x => .inr (one _ x))
theorem Bd.lt {B b : Nat} {l : List UInt8} {w : World} (h : Bd B b l w) : b < w.heap.size := h.elim (fun x => x.lt) (fun x => x.lt)
theorem grow_by (w : World) (k : Nat) (os : Array Obj) : w.grownBy (Go.Sort.grow (w.drewN k) os) none :=
  ⟨rfl, rfl, rfl, by simp [Go.Sort.grow], fun i hi _ => by
    show (w.heap ++ os)[i]? = _
    rw [Array.getElem?_append_left hi]⟩
theorem grow_kp {B b : Nat} (w : World) (k : Nat) (os : Array Obj) (hB : B ≤ w.heap.size) : Kp B b w (Go.Sort.grow (w.drewN k) os) :=
  ⟨(Below.refl B w).grown (grow_by w k os) hB (fun _ h => by cases h), (Lib.OthersKept.refl _ _ w).grown (grow_by w k os) (fun _ h => by cases h)⟩
theorem itoa_ok (B b : Nat) (l : List UInt8) (m : Int) (w : World) (h : Bd B b l w) (ht : Tb B w) (hB : B ≤ w.heap.size) (hm : -999999 ≤ m ∧ m ≤ 999999) :
    Calls Tryd.prog 62 #[.int .i64 m] w fun e w' => e = .returned (.string ⟨(Lib.itoa m).toArray⟩) ∧ Bd B b l w' ∧ Kp B b w w' := by
  obtain ⟨g, _, _, h3⟩ := ht
  refine (Tryd.strconv_Itoa m (by omega) (by omega) w h3).mono ?_
  rintro e w' ⟨rfl, k, os, rfl⟩
  exact ⟨rfl, h.grown (grow_by w k os), grow_kp w k os hB⟩
theorem NodesR.below {B : Nat} {w w' : World} {a : Option Addr} {c : Nat} {l : List Nd} (h : NodesR w (· < B) a c l) (hg : Below B w w') : NodesR w' (· < B) a c l :=
  h.ext (X := fun k => ¬ k < B) ⟨hg.os, hg.tape, hg.output, hg.size, fun k _ hx => hg.block k (Decidable.not_not.1 hx)⟩ (fun k hk hx => hx hk)
theorem StrsR.below {B : Nat} {w w' : World} {a : Option Addr} {c : Nat} {l : List ByteArray} (h : StrsR w (· < B) a c l) (hg : Below B w w') : StrsR w' (· < B) a c l :=
  h.ext (X := fun k => ¬ k < B) ⟨hg.os, hg.tape, hg.output, hg.size, fun k _ hx => hg.block k (Decidable.not_not.1 hx)⟩ (fun k hk hx => hx hk)
def WOk (n : Nd) : Prop := ∀ (B b : Nat) (l : List UInt8) (v : Value) (w : World), Bd B b l w → NodeR w (· < B) n v → Tb B w → B ≤ w.heap.size → Wr n → l.length + (fmtT n).length ≤ 900000 →
    Calls Tryd.prog 40 #[.pointer (some ⟨b, 0, none⟩), v] w fun e w' => e = .returned (.tuple #[]) ∧ Bd B b (l ++ fmtT n) w' ∧ Kp B b w w'
theorem writeNode_ok : ∀ n, WOk n := by
  refine Nd.ind' WOk ?_
  intro n ih B b l v w h hn ht hBw hw hlen
  have Ih := Lib.hid ih
  have H := Lib.hid h
  have Ht := Lib.hid ht
  obtain ⟨na, nc, ka, kc, rfl, hc⟩ := hn
  obtain ⟨htx, hns, hks⟩ := hc.parts
  have hkl : n.kids.length ≤ 9223372036854775807 := hks.2.1
  have Hks := Lib.hid hks
  have Hns := Lib.hid hns
  have Hw := Lib.hid hw
  have hkd := hw.kind
  have hfe := fmtT_eq n
  clear htx hns hc hks ih h ht hw
  unfold nodeV at *
  obtain h0 | h1 | h2 | h3 | h4 : n.kind = 0 ∨ n.kind = 1 ∨ n.kind = 2 ∨ n.kind = 3 ∨ n.kind = 4 := by omega
  · rw [h0] at hfe ⊢
    simp only [if_true] at hfe
    rw [hfe] at hlen ⊢
    have hl4 : l.length + 4 ≤ 1000000 := by simp only [List.length_cons, List.length_nil] at hlen; omega
    go_enter Tryd.func40, Tryd.ntmps40
    go_wp2_with (go_at_call 61; refine (wString B b l ⟨#[110, 117, 108, 108]⟩ _ (H.out.alloc _) hl4 (by simp; omega)).mono ?_; rintro e w2 ⟨rfl, hb2, k2⟩; have H2 := Lib.hid hb2; have K2 := Lib.hid k2; clear hb2 k2)
    go_end0
    exact ⟨rfl, H2.out, ((Kp.refl B b w).alloc hBw _).trans K2.out⟩
  · rw [h1] at hfe ⊢
    simp at hfe
    rw [hfe] at hlen ⊢
    have hil := itoa_len Hw.out.num
    have hsz : l.length + (⟨(Lib.itoa n.num).toArray⟩ : ByteArray).size ≤ 1000000 := by
      show l.length + (Lib.itoa n.num).toArray.size ≤ 1000000
      simp; omega
    go_enter Tryd.func40, Tryd.ntmps40
    go_wp2_with (go_at_call 62; refine (itoa_ok B b l n.num _ (H.out.alloc _) (Ht.out.below ((Below.refl B w).alloc hBw _)) (by simp; omega) Hw.out.num).mono ?_; rintro e w2 ⟨rfl, hb2, k2⟩; have H2 := Lib.hid hb2; have K2 := Lib.hid k2; have B2 : B ≤ w2.heap.size := k2.le (by simp; omega); clear hb2 k2)
    go_wp2_with (go_at_call 61; refine (wString B b l ⟨(Lib.itoa n.num).toArray⟩ _ H2.out hsz B2).mono ?_; rintro e w3 ⟨rfl, hb3, k3⟩; have H3 := Lib.hid hb3; have K3 := Lib.hid k3; clear hb3 k3)
    go_end0
    exact ⟨rfl, by simpa using H3.out, (((Kp.refl B b w).alloc hBw _).trans K2.out).trans K3.out⟩
  · rw [h2] at hfe ⊢
    simp at hfe
    rw [hfe] at hlen ⊢
    go_enter Tryd.func40, Tryd.ntmps40
    go_wp2_with (go_at_call 63; refine (writeText_ok B b l n.text _ (H.out.alloc _) Hw.out.text (by omega) (by simp; omega)).mono ?_; rintro e w2 ⟨rfl, hb2, k2⟩; have H2 := Lib.hid hb2; have K2 := Lib.hid k2; clear hb2 k2)
    go_end0
    exact ⟨rfl, H2.out, ((Kp.refl B b w).alloc hBw _).trans K2.out⟩
  · rw [h3] at hfe ⊢
    simp at hfe
    have hneb : w.heap.size ≠ b := by have := H.out.lt; omega
    have hl1 : l.length + (fmtL false n.names n.kids 0).length + 2 ≤ 900000 := by
      rw [hfe] at hlen
      simp only [List.length_cons, List.length_append, List.length_nil] at hlen
      omega
    have Hfe := Lib.hid hfe
    have Hneb := Lib.hid hneb
    clear hfe hlen
    go_enter Tryd.func40, Tryd.ntmps40
    go_wp2_with (go_at_call 64; refine (wByte B b l 91 _ rfl _ (H.out.alloc _) (by omega) (by simp; omega)).mono ?_; rintro e w1 ⟨rfl, hb1, k1⟩; obtain ⟨c0, c1, c2, c3, c4⟩ := k1.box5 (by decide) Hneb.out; have H1 := Lib.hid hb1; have K1 := Lib.hid (((Kp.refl B b w).alloc hBw _).trans k1); clear hb1 k1)
    go_loopw [4, 5, 34] (fun _ _ i wr => ∃ j : Nat, j ≤ n.kids.length ∧ i = .int .i64 j ∧ Hid (Bd B b (l ++ [91] ++ fmtL false n.names (n.kids.take j) 0) wr) ∧ Hid (Kp B b w wr)) (fun _ _ i _ => n.kids.length - (intOf i).toNat)
    case atStart => exact ⟨0, Nat.zero_le _, rfl, by simpa [fmtL] using H1, K1⟩
    case round =>
      obtain ⟨j, hj, rfl, Hr, Kr⟩ := hrel
      clear H1 K1 c0 c1 c2 c3 c4
      have hBr : B ≤ wr.heap.size := Kr.out.le hBw
      have hle := fmtL_le false n.names n.kids j
      by_cases hlt : j < n.kids.length
      · have hsucc := fmtL_succ false n.names hlt
        have hle2 := fmtL_le false n.names n.kids (j + 1)
        obtain ⟨_, _, hks⟩ := Hks.out.below Kr.out.below
        rcases hks with hks | ⟨bk, ok, rfl, _, hkr⟩
        · simp [hks] at hlt
        obtain ⟨na', nc', ka', kc', c0, c1, c2, c3, c4, hkc⟩ := hkr.get j hlt
        have Hkc : Hid (NodeR wr (· < B) n.kids[j] (nodeV n.kids[j] na' nc' ka' kc')) := Lib.hid ⟨_, _, _, _, rfl, hkc⟩
        have hneb2 : wr.heap.size ≠ b := by have := Hr.out.lt; omega
        have Hneb2 := Lib.hid hneb2
        have Kal := Lib.hid (fun o => (Kp.refl B b wr).alloc hBr o)
        clear hkc hkr hneb2 hneb
        obtain ⟨pre, hpre⟩ : ∃ pre, pre = l ++ [91] ++ fmtL false n.names (n.kids.take j) 0 := ⟨_, rfl⟩
        have hpl : pre.length = l.length + 1 + (fmtL false n.names (n.kids.take j) 0).length := by rw [hpre, List.length_append, List.length_append]; rfl
        have hst : l ++ [91] ++ fmtL false n.names (n.kids.take (j + 1)) 0 = pre ++ ((if 0 < j then [44] else []) ++ fmtT n.kids[j]) := by rw [hsucc, hpre]; simp only [Bool.false_eq_true, if_false, List.append_nil, List.append_assoc]
        rw [← hpre] at Hr
        have hsl := congrArg List.length hst
        simp only [List.length_append, List.length_cons, List.length_nil] at hsl
        have Hst := Lib.hid hst
        clear hst hsucc hpre
        by_cases h0 : 0 < j
        · rw [if_pos h0] at hsl Hst
          simp only [List.length_cons, List.length_nil] at hsl
          have hA : pre.length + 1 ≤ 1000000 := by omega
          have hA2 : (pre ++ [44]).length + (fmtT n.kids[j]).length ≤ 900000 := by simp only [List.length_append, List.length_cons, List.length_nil]; omega
          have HA2 := Lib.hid hA2
          clear hA2 hsl hpl hle hle2
          go_wp2_with (go_at_call 64; refine (wByte B b pre 44 _ rfl _ (Hr.out.alloc _) hA (by simp; omega)).mono ?_; rintro e w2 ⟨rfl, hb2, k2⟩; obtain ⟨d0, d1, d2, d3, d4⟩ := k2.box5 (by decide) Hneb2.out; have H2 := Lib.hid hb2; have K2 := Lib.hid ((Kal.out _).trans k2); have B2 : B ≤ w2.heap.size := k2.le (by simp; omega); clear hb2 k2)
          go_wp2_with (go_at_call 40; refine (Ih.out _ (List.getElem_mem hlt) B b (pre ++ [44]) _ _ H2.out (Hkc.out.below K2.out.below) (Ht.out.below (Kr.out.trans K2.out).below) B2 (Hw.out.kid _ (List.getElem_mem hlt)) HA2.out).mono ?_; rintro e w3 ⟨rfl, hb3, k3⟩; have H3 := Lib.hid hb3; have K3 := Lib.hid ((Kr.out.trans K2.out).trans k3); clear hb3 k3)
          go_roundw
          case rel => exact ⟨j + 1, by omega, by go_num, Lib.hid (by rw [Hst.out]; simpa [List.append_assoc] using H3.out), K3⟩
          case measure => simp [intOf]; omega
        · rw [if_neg h0] at hsl Hst
          simp only [List.length_nil] at hsl
          have hA2 : pre.length + (fmtT n.kids[j]).length ≤ 900000 := by omega
          have HA2 := Lib.hid hA2
          clear hA2 hsl hpl hle hle2
          go_wp2_with (go_at_call 40; refine (Ih.out _ (List.getElem_mem hlt) B b pre _ _ (Hr.out.alloc _) (Hkc.out.below (Kal.out _).below) (Ht.out.below (Kr.out.trans (Kal.out _)).below) (by simp; omega) (Hw.out.kid _ (List.getElem_mem hlt)) HA2.out).mono ?_; rintro e w3 ⟨rfl, hb3, k3⟩; have H3 := Lib.hid hb3; have K3 := Lib.hid ((Kr.out.trans (Kal.out _)).trans k3); clear hb3 k3)
          go_roundw
          case rel => exact ⟨j + 1, by omega, by go_num, Lib.hid (by rw [Hst.out]; simpa [List.append_assoc] using H3.out), K3⟩
          case measure => simp [intOf]; omega
      · have hje : n.kids.take j = n.kids := List.take_of_length_le (by omega)
        rw [hje] at Hr
        go_wp2_with (go_at_call 64; refine (wByte B b _ 93 _ rfl _ Hr.out (by simp only [List.length_append, List.length_cons, List.length_nil]; omega) hBr).mono ?_; rintro e w2 ⟨rfl, hb2, k2⟩; have H2 := Lib.hid hb2; have K2 := Lib.hid (Kr.out.trans k2); clear hb2 k2)
        go_end0
        exact ⟨rfl, by rw [Hfe.out]; simpa [List.append_assoc] using H2.out, K2.out⟩
  · rw [h4] at hfe ⊢
    simp at hfe
    have hneb : w.heap.size ≠ b := by have := H.out.lt; omega
    have hkn := Hw.out.map h4
    have hl1 : l.length + (fmtL true n.names n.kids 0).length + 2 ≤ 900000 := by
      rw [hfe] at hlen
      simp only [List.length_cons, List.length_append, List.length_nil] at hlen
      omega
    have Hfe := Lib.hid hfe
    have Hneb := Lib.hid hneb
    have Hkn := Lib.hid hkn
    clear hfe hlen hkn
    go_enter Tryd.func40, Tryd.ntmps40
    go_wp2_with (go_at_call 64; refine (wByte B b l 123 _ rfl _ (H.out.alloc _) (by omega) (by simp; omega)).mono ?_; rintro e w1 ⟨rfl, hb1, k1⟩; obtain ⟨c0, c1, c2, c3, c4⟩ := k1.box5 (by decide) Hneb.out; have H1 := Lib.hid hb1; have K1 := Lib.hid k1; clear hb1 k1)
    go_loopw [6, 7, 56] (fun _ _ i wr => ∃ j : Nat, j ≤ n.kids.length ∧ i = .int .i64 j ∧ Hid (Bd B b (l ++ [123] ++ fmtL true n.names (n.kids.take j) 0) wr) ∧ Hid (Kp B b (w.alloc (.cells #[.int .i64 4, .int .i64 n.num, .string n.text, .slice na n.names.length nc, .slice ka n.kids.length kc] 30)) wr)) (fun _ _ i _ => n.kids.length - (intOf i).toNat)
    case atStart => exact ⟨0, Nat.zero_le _, rfl, by simpa [fmtL] using H1, K1⟩
    case round =>
      obtain ⟨j, hj, rfl, Hr, Ka⟩ := hrel
      clear H1 K1 c0 c1 c2 c3 c4
      have Kr : Hid (Kp B b w wr) := Lib.hid (((Kp.refl B b w).alloc hBw _).trans Ka.out)
      have hBr : B ≤ wr.heap.size := Kr.out.le hBw
      have hle := fmtL_le true n.names n.kids j
      by_cases hlt : j < n.kids.length
      · have hsucc := fmtL_succ true n.names hlt
        have hle2 := fmtL_le true n.names n.kids (j + 1)
        have hjn : j < n.names.length := by have := Hkn.out; omega
        obtain ⟨_, _, hks⟩ := Hks.out.below Kr.out.below
        rcases hks with hks | ⟨bk, ok, rfl, _, hkr⟩
        · simp [hks] at hlt
        obtain ⟨na', nc', ka', kc', c0, c1, c2, c3, c4, hkc⟩ := hkr.get j hlt
        obtain ⟨_, _, _, hns4⟩ := Hns.out.below Kr.out.below
        rcases hns4 with hns4 | ⟨bn, on, rfl, hbB, hcell⟩
        · simp [hns4] at hjn
        have Hnc := Lib.hid (hcell j hjn)
        have hnsz := Hw.out.names _ (List.getElem_mem hjn)
        have hnl : n.names[j].data.toList.length = n.names[j].size := by simp
        have hql := quo_len n.names[j].data.toList
        have Hkc : Hid (NodeR wr (· < B) n.kids[j] (nodeV n.kids[j] na' nc' ka' kc')) := Lib.hid ⟨_, _, _, _, rfl, hkc⟩
        have hneb2 : wr.heap.size ≠ b := by have := Hr.out.lt; omega
        have Hneb2 := Lib.hid hneb2
        have Kal := Lib.hid (fun o => (Kp.refl B b wr).alloc hBr o)
        clear hkc hkr hneb2 hneb hcell
        obtain ⟨pre, hpre⟩ : ∃ pre, pre = l ++ [123] ++ fmtL true n.names (n.kids.take j) 0 := ⟨_, rfl⟩
        have hpl : pre.length = l.length + 1 + (fmtL true n.names (n.kids.take j) 0).length := by rw [hpre, List.length_append, List.length_append]; rfl
        have hst : l ++ [123] ++ fmtL true n.names (n.kids.take (j + 1)) 0 = pre ++ ((if 0 < j then [44] else []) ++ (quoT n.names[j].data.toList ++ [58]) ++ fmtT n.kids[j]) := by
          rw [hsucc, hpre, List.getElem?_eq_getElem hjn]; simp only [if_true, Option.getD_some, List.append_assoc]
        rw [← hpre] at Hr
        have hsl := congrArg List.length hst
        simp only [List.length_append, List.length_cons, List.length_nil] at hsl
        have Hst := Lib.hid hst
        clear hst hsucc hpre
        by_cases h0 : 0 < j
        · rw [if_pos h0] at hsl Hst
          simp only [List.length_cons, List.length_nil] at hsl
          have hA : pre.length + 1 ≤ 1000000 := by omega
          have hA1 : (pre ++ [44]).length ≤ 900000 := by simp only [List.length_append, List.length_cons, List.length_nil]; omega
          have hA3 : (pre ++ [44] ++ quoT n.names[j].data.toList).length + 1 ≤ 1000000 := by simp only [List.length_append, List.length_cons, List.length_nil]; omega
          have hA2 : (pre ++ [44] ++ quoT n.names[j].data.toList ++ [58]).length + (fmtT n.kids[j]).length ≤ 900000 := by simp only [List.length_append, List.length_cons, List.length_nil]; omega
          have HA1 := Lib.hid hA1
          have HA2 := Lib.hid hA2
          have HA3 := Lib.hid hA3
          clear hA1 hA2 hA3 hsl hpl hle hle2 hnl hql
          go_wp2_with (go_at_call 64; refine (wByte B b pre 44 _ rfl _ (Hr.out.alloc _) hA (by simp; omega)).mono ?_; rintro e w2 ⟨rfl, hb2, k2⟩; obtain ⟨e0, e1, e2, e3, e4⟩ := (Ka.out.trans ((Kal.out _).trans k2)).box5 (by decide) Hneb.out; have s0 := (((Kal.out _).trans k2).below.cell (p := ⟨bn, on + j, none⟩) hbB).trans Hnc.out; have H2 := Lib.hid hb2; have KB := Lib.hid k2; have K2 := Lib.hid ((Kal.out _).trans k2); have B2 : B ≤ w2.heap.size := k2.le (by simp; omega); clear hb2 k2)
          clear c0 c1 c2 c3 c4
          go_wp2_with (go_at_call 63; refine (writeText_ok B b (pre ++ [44]) n.names[j] _ H2.out hnsz HA1.out B2).mono ?_; rintro e w3 ⟨rfl, hb3, k3⟩; have H3 := Lib.hid hb3; have KB3 := Lib.hid (KB.out.trans k3); have K3 := Lib.hid (K2.out.trans k3); have B3 : B ≤ w3.heap.size := k3.le B2; clear hb3 k3)
          clear e0 e1 e2 e3 e4 s0
          go_wp2_with (go_at_call 64; refine (wByte B b (pre ++ [44] ++ quoT n.names[j].data.toList) 58 _ rfl _ H3.out HA3.out B3).mono ?_; rintro e w4 ⟨rfl, hb4, k4⟩; obtain ⟨d0, d1, d2, d3, d4⟩ := (KB3.out.trans k4).box5 (by decide) Hneb2.out; have H4 := Lib.hid hb4; have K4 := Lib.hid (K3.out.trans k4); have B4 : B ≤ w4.heap.size := k4.le B3; clear hb4 k4)
          go_wp2_with (go_at_call 40; refine (Ih.out _ (List.getElem_mem hlt) B b (pre ++ [44] ++ quoT n.names[j].data.toList ++ [58]) _ _ H4.out (Hkc.out.below K4.out.below) (Ht.out.below (Kr.out.trans K4.out).below) B4 (Hw.out.kid _ (List.getElem_mem hlt)) HA2.out).mono ?_; rintro e w5 ⟨rfl, hb5, k5⟩; have H5 := Lib.hid hb5; have K5 := Lib.hid ((Ka.out.trans K4.out).trans k5); clear hb5 k5)
          go_roundw
          case rel => exact ⟨j + 1, by omega, by go_num, Lib.hid (by rw [Hst.out]; simpa [List.append_assoc] using H5.out), K5⟩
          case measure => simp [intOf]; omega
        · rw [if_neg h0] at hsl Hst
          simp only [List.length_nil] at hsl
          have hA1 : pre.length ≤ 900000 := by omega
          have hA3 : (pre ++ quoT n.names[j].data.toList).length + 1 ≤ 1000000 := by simp only [List.length_append, List.length_cons, List.length_nil]; omega
          have hA2 : (pre ++ quoT n.names[j].data.toList ++ [58]).length + (fmtT n.kids[j]).length ≤ 900000 := by simp only [List.length_append, List.length_cons, List.length_nil]; omega
          have HA1 := Lib.hid hA1
          have HA2 := Lib.hid hA2
          have HA3 := Lib.hid hA3
          clear hA1 hA2 hA3 hsl hpl hle hle2 hnl hql
          obtain ⟨e0, e1, e2, e3, e4⟩ := Ka.out.box5 (by decide) Hneb.out
          have s0 := Hnc.out
          have hz1 : bn < wr.heap.size := by omega
          have hz2 : w.heap.size < wr.heap.size := by have := Ka.out.below.size; simp at this; omega
          go_wp2_with (go_at_call 63; refine (writeText_ok B b pre n.names[j] _ (Hr.out.alloc _) hnsz HA1.out (by simp; omega)).mono ?_; rintro e w3 ⟨rfl, hb3, k3⟩; have H3 := Lib.hid hb3; have KB3 := Lib.hid k3; have K3 := Lib.hid ((Kal.out _).trans k3); have B3 : B ≤ w3.heap.size := k3.le (by simp; omega); clear hb3 k3)
          clear e0 e1 e2 e3 e4 s0 c0 c1 c2 c3 c4
          go_wp2_with (go_at_call 64; refine (wByte B b (pre ++ quoT n.names[j].data.toList) 58 _ rfl _ H3.out HA3.out B3).mono ?_; rintro e w4 ⟨rfl, hb4, k4⟩; obtain ⟨d0, d1, d2, d3, d4⟩ := (KB3.out.trans k4).box5 (by decide) Hneb2.out; have H4 := Lib.hid hb4; have K4 := Lib.hid (K3.out.trans k4); have B4 : B ≤ w4.heap.size := k4.le B3; clear hb4 k4)
          go_wp2_with (go_at_call 40; refine (Ih.out _ (List.getElem_mem hlt) B b (pre ++ quoT n.names[j].data.toList ++ [58]) _ _ H4.out (Hkc.out.below K4.out.below) (Ht.out.below (Kr.out.trans K4.out).below) B4 (Hw.out.kid _ (List.getElem_mem hlt)) HA2.out).mono ?_; rintro e w5 ⟨rfl, hb5, k5⟩; have H5 := Lib.hid hb5; have K5 := Lib.hid ((Ka.out.trans K4.out).trans k5); clear hb5 k5)
          go_roundw
          case rel => exact ⟨j + 1, by omega, by go_num, Lib.hid (by rw [Hst.out]; simpa [List.append_assoc] using H5.out), K5⟩
          case measure => simp [intOf]; omega
      · have hje : n.kids.take j = n.kids := List.take_of_length_le (by omega)
        rw [hje] at Hr
        go_wp2_with (go_at_call 64; refine (wByte B b _ 125 _ rfl _ Hr.out (by simp only [List.length_append, List.length_cons, List.length_nil]; omega) hBr).mono ?_; rintro e w2 ⟨rfl, hb2, k2⟩; have H2 := Lib.hid hb2; have K2 := Lib.hid (Kr.out.trans k2); clear hb2 k2)
        go_end0
        exact ⟨rfl, by rw [Hfe.out]; simpa [List.append_assoc] using H2.out, K2.out⟩
end Go.Proofs.YtoedpagdklagdaaDoor
namespace Go.Proofs.YtoedpagdklagdaaDoor
open Go.RowKit
def fmtS (n : Nd) : ByteArray := if validB n then ⟨(fmtT n).toArray⟩ else ⟨#[]⟩
theorem below_of {w w' : World} (h : Grow w w') : Below w.heap.size w w' := ⟨h.os, h.tape, h.output, h.size, fun k hk => h.block k hk (fun h => h)⟩
theorem grow_of {w w' : World} (h : Below w.heap.size w w') : Grow w w' := ⟨h.os, h.tape, h.output, h.size, fun k hk _ => h.block k hk⟩
theorem NodeR.under {w : World} {n : Nd} {v : Value} (h : NodeR w any n v) : NodeR w (· < w.heap.size) n v := by
  obtain ⟨na, nc, ka, kc, rfl, hc⟩ := h
  exact ⟨na, nc, ka, kc, rfl, hc.lt.mono (fun _ h => h.2)⟩
theorem Tb.mono {B C : Nat} {w : World} (h : Tb B w) (hB : B ≤ C) : Tb C w := by
  obtain ⟨g, h1, h2, h3⟩ := h
  exact ⟨g, h1, by omega, h3⟩
theorem fresh_bd {B : Nat} {w : World} (hB : B ≤ w.heap.size) : Bd B w.heap.size [] (w.alloc (.cells #[.pointer none, .slice none 0 0] TB)) :=
  .inl ⟨hB, .slice none 0 0, heap_alloc_new w _, World.ownsRowF_nil _ _ _ _, by simp [Value.ownBlock]⟩
theorem FormatNode_ok (n : Nd) (v : Value) (w : World) (hn : NodeR w any n v) (ht : Tb w.heap.size w) :
    Calls Tryd.prog 14 #[v] w fun e w' => e = .returned (.string (fmtS n)) ∧ Grow w w' := by
  have hnu := hn.under
  have Hn := Lib.hid hn
  obtain ⟨na, nc, ka, kc, rfl, hc⟩ := hnu
  have Hnu : Hid (NodeR w (· < w.heap.size) n (nodeV n na nc ka kc)) := Lib.hid ⟨na, nc, ka, kc, rfl, hc⟩
  have Ht := Lib.hid ht
  clear hn hc ht
  unfold nodeV at *
  cases hv : validB n
  · have Hf : Hid (fmtS n = ⟨#[]⟩) := Lib.hid (by unfold fmtS; rw [hv]; rfl)
    go_enter Tryd.func14, Tryd.ntmps14
    go_wp2_with (go_at_call 19; refine (ValidNode_ok n _ _ ((Hn.out).ext ((Ext.refl nil w).alloc _) (fun _ _ h => h))).mono ?_; rintro e w1 ⟨rfl, hg1⟩; simp only [hv])
    go_ret
    exact ⟨by rw [Hf.out]; rfl, ((Ext.refl _ _).alloc _).trans hg1⟩
  · have hw := valid_wr (n := n) (by unfold validB at hv; rw [Bool.and_eq_true] at hv; exact hv.1)
    have hcnt : n.count ≤ 40 := by unfold validB at hv; rw [Bool.and_eq_true] at hv; simpa using hv.2
    have hfl := fmt_len hw
    have Hw := Lib.hid hw
    have hlen : ([] : List UInt8).length + (fmtT n).length ≤ 900000 := by simp only [List.length_nil]; omega
    have Hf : Hid (fmtS n = ⟨(fmtT n).toArray⟩) := Lib.hid (by unfold fmtS; rw [hv]; rfl)
    go_enter Tryd.func14, Tryd.ntmps14
    go_wp2_with (go_at_call 19; refine (ValidNode_ok n _ _ ((Hn.out).ext ((Ext.refl nil w).alloc _) (fun _ _ h => h))).mono ?_; rintro e w1 ⟨rfl, hg1⟩; simp only [hv]; have G1 := Lib.hid (((Ext.refl nil w).alloc _).trans hg1); have hcc := bcell hg1; have hz1 : w.heap.size < w1.heap.size := by have := hg1.size; simp at this; omega)
    clear hcc hg1
    have Hb1 := Lib.hid (below_of G1.out)
    have Hba := Lib.hid (fun o => (below_of G1.out).alloc (Nat.le_of_lt hz1) o)
    go_wp2_with (go_at_call 40; refine (writeNode_ok n w.heap.size w1.heap.size [] _ _ (fresh_bd (Nat.le_of_lt hz1)) (Hnu.out.below (Hba.out _)) (Ht.out.below (Hba.out _)) (by simp; omega) Hw.out hlen).mono ?_; rintro e w2 ⟨rfl, hb2, k2⟩; have H2 := Lib.hid hb2; have K2 := Lib.hid ((Hba.out _).trans k2.below); have B2 : w.heap.size ≤ w2.heap.size := k2.le (by simp; omega); clear hb2 k2)
    go_wp2_with (go_at_call 41; refine (Tryd.Builder_String_any_k w.heap.size w1.heap.size ([] ++ fmtT n) _ H2.out B2).mono ?_; rintro e w3 ⟨rfl, _, hb3, _⟩; have K3 := Lib.hid (K2.out.trans hb3); clear hb3)
    go_ret
    exact ⟨by rw [Hf.out]; rfl, grow_of K3.out⟩
def fmtZ (n : Nd) : Int := if validB n then (fmtT n).length else -1
theorem TextSize_ok (n : Nd) (v : Value) (w : World) (hn : NodeR w any n v) (ht : Tb w.heap.size w) :
    Calls Tryd.prog 17 #[v] w fun e w' => e = .returned (.int .i64 (fmtZ n)) ∧ Grow w w' := by
  have Hn := Lib.hid hn
  have Ht := Lib.hid ht
  obtain ⟨na, nc, ka, kc, rfl, hc⟩ := hn
  clear hc ht
  unfold nodeV at *
  cases hv : validB n
  · have Hf : Hid (fmtZ n = -1) := Lib.hid (by unfold fmtZ; rw [hv]; rfl)
    go_enter Tryd.func17, Tryd.ntmps17
    go_wp2_with (go_at_call 19; refine (ValidNode_ok n _ _ ((Hn.out).ext ((Ext.refl nil w).alloc _) (fun _ _ h => h))).mono ?_; rintro e w1 ⟨rfl, hg1⟩; simp only [hv])
    go_ret
    exact ⟨by rw [Hf.out]; rfl, ((Ext.refl _ _).alloc _).trans hg1⟩
  · have Hf : Hid (fmtZ n = (fmtS n).size) := Lib.hid (by unfold fmtZ fmtS; rw [hv]; simp [ByteArray.size])
    go_enter Tryd.func17, Tryd.ntmps17
    go_wp2_with (go_at_call 19; refine (ValidNode_ok n _ _ ((Hn.out).ext ((Ext.refl nil w).alloc _) (fun _ _ h => h))).mono ?_; rintro e w1 ⟨rfl, hg1⟩; simp only [hv]; have G1 := Lib.hid (((Ext.refl nil w).alloc _).trans hg1); have hcc := bcell hg1; have hz1 : w.heap.size < w1.heap.size := by have := hg1.size; simp at this; omega)
    clear hcc hg1
    have Ht1 := Lib.hid ((Ht.out.below (below_of G1.out)).mono (Nat.le_of_lt hz1))
    go_wp2_with (go_at_call 14; refine (FormatNode_ok n _ _ ((Hn.out).ext G1.out (fun _ _ h => h)) Ht1.out).mono ?_; rintro e w2 ⟨rfl, hg2⟩)
    go_ret
    exact ⟨by rw [Hf.out]; rfl, G1.out.trans hg2⟩
end Go.Proofs.YtoedpagdklagdaaDoor
namespace Go.Proofs.YtoedpagdklagdaaDoor.Eng
open Go Go.RowKit
attribute [local simp] big size_mk ASt.pay Option.map_map Function.comp_def awant aop acall ado aev ofVal ofVal0 ASt.put ASt.add ASt.turn ASt.kill abox aalloc astore aload ASt.at cellsTo afieldAddr afield aindexAddr aindex alen abin aint acmp astr aun apick aextract anil aslice abound abuild afill abuildSlice asCells aps avCells over upd aappend asrc amax amin aconv mkSt slots rowsOf_cons rowsOf_nil usedOf_cons usedOf_nil ZK.av List.replicate ASt.back ASt.addL ASt.killL nodeA nodeT nodeTL_eq nodeL_eq strsE_get strsE_len intsE_get intsE_len strsE_at intsE_at tab2 tab3 tab4 tab5 tab6 tab7 tab8 tab9 tab10 tab11 tab12 tab13 tab14 tab15 tab16 tab17 tab18 tab19 tab21 tab22 tab23 tab24 tab25 tab28 tab29 tab30 tab35 tab40 tab41 tab42 tab45 tab46 tab47 tab55 tab56 tab57 tab63 tab73 tab74 tab84 tab87 tab89 tab90 tab93 tab94 tab109 tab120 tab123 tab128 tab129 tab134 tab135 tab137 tab138
end Go.Proofs.YtoedpagdklagdaaDoor.Eng
namespace Go.Proofs.YtoedpagdklagdaaDoor.Eng
open Go Go.RowKit
inductive Way : Nd → Prop where
  | mk (n : Nd) (h1 : n.kind = 4 → n.kids.length ≤ n.names.length) (h2 : n.kids.length ≤ 6) (h3 : ∀ k ∈ n.kids, Way k) : Way n
theorem Way.names {n : Nd} : Way n → n.kind = 4 → n.kids.length ≤ n.names.length | .mk _ h _ _ => h
theorem Way.kids {n : Nd} : Way n → n.kids.length ≤ 6 | .mk _ _ h _ => h
theorem Way.kid {n : Nd} : Way n → ∀ k ∈ n.kids, Way k | .mk _ _ _ h => h
end Go.Proofs.YtoedpagdklagdaaDoor.Eng
namespace Go.Proofs.YtoedpagdklagdaaDoor.Eng
open Go Go.RowKit
attribute [local simp] big size_mk ASt.pay Option.map_map Function.comp_def awant aop acall ado aev ofVal ofVal0 ASt.put ASt.add ASt.turn ASt.kill abox aalloc astore aload ASt.at cellsTo afieldAddr afield aindexAddr aindex alen abin aint acmp astr aun apick aextract anil aslice abound abuild afill abuildSlice asCells aps avCells over upd aappend asrc amax amin aconv mkSt slots rowsOf_cons rowsOf_nil usedOf_cons usedOf_nil ZK.av List.replicate ASt.back ASt.addL ASt.killL nodeA nodeT nodeTL_eq nodeL_eq strsE_get strsE_len intsE_get intsE_len strsE_at intsE_at tab2 tab3 tab4 tab5 tab6 tab7 tab8 tab9 tab10 tab11 tab12 tab13 tab14 tab15 tab16 tab17 tab18 tab19 tab21 tab22 tab23 tab24 tab25 tab28 tab29 tab30 tab35 tab40 tab41 tab42 tab45 tab46 tab47 tab55 tab56 tab57 tab63 tab73 tab74 tab84 tab87 tab89 tab90 tab93 tab94 tab109 tab120 tab123 tab128 tab129 tab134 tab135 tab137 tab138
def zeroN : List AV := [.int .i64 0, .int .i64 0, .str ⟨#[]⟩, .view .tight 0 [], .view .tight 0 []]
def part (ks : List Nd) (i : Nat) : List (List AV) := (ks.take i).map nodeL ++ List.replicate (ks.length - i) zeroN
end Go.Proofs.YtoedpagdklagdaaDoor.Eng
namespace Go.Proofs.YtoedpagdklagdaaDoor.Eng
open Go Go.RowKit
section
variable {P : Program} {T : Tab} {w0 : W0} {S0 : Nat → Prop} {rd0 : Option Nat} {k0 : Nat} {w : World} {a : Act} {s : ASt} {ρ : Cx}
end
section
variable {P : Program} {T : Tab} {k0 : Nat} {md : List Nat} {ops : Array Oper} {K : ASt → Prop} {o : Oper} {l : List Oper} {s : ASt}
end
end Go.Proofs.YtoedpagdklagdaaDoor.Eng
namespace Go.Proofs.YtoedpagdklagdaaDoor.Eng
open Go Go.RowKit
attribute [local simp] big size_mk ASt.pay Option.map_map Function.comp_def awant aop acall ado aev ofVal ofVal0 ASt.put ASt.add ASt.turn ASt.kill abox aalloc astore aload ASt.at cellsTo afieldAddr afield aindexAddr aindex alen abin aint acmp astr aun apick aextract anil aslice abound abuild afill abuildSlice asCells aps avCells over upd aappend asrc amax amin aconv mkSt slots rowsOf_cons rowsOf_nil usedOf_cons usedOf_nil ZK.av List.replicate ASt.back ASt.addL ASt.killL nodeA nodeT nodeTL_eq nodeL_eq strsE_get strsE_len intsE_get intsE_len strsE_at intsE_at tab2 tab3 tab4 tab5 tab6 tab7 tab8 tab9 tab10 tab11 tab12 tab13 tab14 tab15 tab16 tab17 tab18 tab19 tab21 tab22 tab23 tab24 tab25 tab28 tab29 tab30 tab35 tab40 tab41 tab42 tab45 tab46 tab47 tab55 tab56 tab57 tab63 tab73 tab74 tab84 tab87 tab89 tab90 tab93 tab94 tab109 tab120 tab123 tab128 tab129 tab134 tab135 tab137 tab138
theorem AC.args {P : Program} {f : FuncId} {args args' : List AV} {c : Nat} {Post : AV → Prop} (h : AC P f args c Post) (hw : ∀ w ρ vs, RepL w ρ args' vs → RepL w ρ args vs) : AC P f args' c Post :=
  ⟨h.1, fun w L S rb k vs h0 h1 h2 h3 => h.2 w L S rb k vs h0 h1 h2 (hw w _ vs h3)⟩
theorem ACR.args {P : Program} {f : FuncId} {args args' : List AV} {c : Nat} {Post0 : AV → Prop} {Post : (Nat → AV) → Row → Prop} (h : ACR P f args c Post0 Post) (hw : ∀ w ρ vs, RepL w ρ args' vs → RepL w ρ args vs) : ACR P f args' c Post0 Post :=
  ⟨h.1, fun w L S rb k vs h0 h1 h2 h3 => h.2 w L S rb k vs h0 h1 h2 (hw w _ vs h3)⟩
theorem Less.hold {s : ASt} (id : Nat) : Less s (s.hold id) := fun _ _ _ _ _ _ _ _ hs => by
  obtain ⟨ρ', h, _⟩ := SR.held hs id
  exact ⟨ρ', h⟩
theorem txt_size (l : List UInt8) : (txt l).size = l.length := by show l.toArray.size = _; simp
theorem txt_app (a b : List UInt8) : txt a ++ txt b = txt (a ++ b) := by
  unfold txt
  apply ByteArray.ext
  simp [ByteArray.data_append]
theorem digs_one {u : Nat} (h : u < 10) : Lib.decDigits u = [UInt8.ofNat (48 + u)] := by rw [Lib.decDigits, dif_pos h]
theorem digs_more {u : Nat} (h : ¬ u < 10) : Lib.decDigits u = Lib.decDigits (u / 10) ++ [UInt8.ofNat (48 + u % 10)] := by rw [Lib.decDigits, dif_neg h]
theorem decimalU_AC : ∀ u : Nat, u ≤ 999999 → AC Tryd.prog 59 [.int .i64 (u : Int)] 0 (fun r => r = .str (txt (Lib.decDigits u))) := by
  intro u
  induction u using Nat.strongRecOn with
  | ind u ih =>
  intro hu
  have hneg : ¬ ((u : Int) < 0) := by omega
  by_cases h10 : u < 10
  · have hlt : (u : Int) < 10 := by omega
    have hw : IntKind.i64.wrap (48 + (u : Int)) = 48 + (u : Int) := i64_nat (by omega) (by omega)
    have hw8 : IntKind.u8.wrap (48 + (u : Int)) = 48 + (u : Int) := IntWalk.u8_in _ (by omega)
    have hb1 : (0 : Int) ≤ 48 + (u : Int) := by omega
    have hb2 : 48 + (u : Int) ≤ 255 := by omega
    have hn : (48 + (u : Int)).toNat = 48 + u := by omega
    refine AC.of tab_ok mixed_ok Tryd.func59 (by rfl) (by kernel_rfl) ?_; rintro ⟨P, T, hT, hm, w0, S0, rd0, k0⟩ hP hTT; dsimp only at hP hTT; subst hP hTT; unfold initSt; rw [Tryd.ntmps59]
    (repeat (first | with_reducible refine AW.seq ?_ | ((first | refine arun_kn 4 rfl (fun C hC => ?_) | refine arunD_kn 4 rfl (fun C hC => ?_)); (repeat ((conv => whnf); simp [hneg, hlt, hw, hw8, hb1, hb2, hn, aconv, isU8, bytesV, strV])); refine hC _ ?_; clear hC C; simp only [List.drop, Nat.reduceAdd]) | ((first | refine arun_kn 1 rfl (fun C hC => ?_) | refine arunD_kn 1 rfl (fun C hC => ?_)); (repeat ((conv => whnf); simp [hneg, hlt, hw, hw8, hb1, hb2, hn, aconv, isU8, bytesV, strV])); refine hC _ ?_; clear hC C; simp only [List.drop, Nat.reduceAdd]) | (refine arun_skip ?_ ?_; (focus (simp [awant, hneg, hlt, hw, hw8, hb1, hb2, hn, aconv, isU8, bytesV, strV]; done))) | (refine AW.regionK [] (fun K hK => ?_)) | (refine AW.regionDK [] (pcs [] []) (by kernel_rfl) (by kernel_rfl) (fun K hK => ?_)) | (refine AW.condT ?_ ?_; (focus (simp [aev, hneg, hlt, hw, hw8, hb1, hb2, hn, aconv, isU8, bytesV, strV]; done))) | (refine AW.condF ?_ ?_; (focus (simp [aev, hneg, hlt, hw, hw8, hb1, hb2, hn, aconv, isU8, bytesV, strV]; done))) | with_reducible refine AW.block ?_ | ((first | ((first | refine arun_nil ?_ | refine arunD_nil ?_); refine hK _ ?_; clear hK K) | refine AW.skip ?_ | refine AW.exit ?_ | refine AW.ret ?_); simp only [thenA_exit, inBlockA_exit, if_true, if_false, Nat.reduceEqDiff, thenA_normal, inBlockA_normal, reduceIte, thenA_ret, inBlockA_ret, endQ_ret, endR_ret, endG_ret, endQ_normal, endR_normal, endG_normal])))
    rw [digs_one h10]
    exact ⟨.str (txt [UInt8.ofNat (48 + u)]), by simp [ares, aresL, txt], pur_str, rfl⟩
  · have hlt : ¬ ((u : Int) < 10) := by omega
    have pd := ih (u / 10) (by omega) (by omega)
    have hq : (u : Int).tdiv 10 = ((u / 10 : Nat) : Int) := rfl
    have hr : (u : Int).tmod 10 = ((u % 10 : Nat) : Int) := rfl
    have hw0 : IntKind.i64.wrap ((u / 10 : Nat) : Int) = ((u / 10 : Nat) : Int) := i64_nat (by omega) (by omega)
    have hm : u % 10 < 10 := Nat.mod_lt _ (by omega)
    rw [digs_more h10]
    have hdl := digs_len 4 (u / 10) (by omega)
    generalize u / 10 = q at *
    generalize u % 10 = m at *
    generalize Lib.decDigits q = D at *
    have hw : IntKind.i64.wrap (48 + (m : Int)) = 48 + (m : Int) := i64_nat (by omega) (by omega)
    have hw8 : IntKind.u8.wrap (48 + (m : Int)) = 48 + (m : Int) := IntWalk.u8_in _ (by omega)
    have hb1 : (0 : Int) ≤ 48 + (m : Int) := by omega
    have hb2 : 48 + (m : Int) ≤ 255 := by omega
    have hn : (48 + (m : Int)).toNat = 48 + m := by omega
    have hap : txt D ++ ⟨#[UInt8.ofNat (48 + m)]⟩ = txt (D ++ [UInt8.ofNat (48 + m)]) := txt_app D [_]
    have hap2 : txt D ++ ⟨#[48 + UInt8.ofNat m]⟩ = txt (D ++ [48 + UInt8.ofNat m]) := txt_app D [_]
    have hz : D.length + 1 ≤ 9223372036854775807 := by omega
    refine AC.of tab_ok mixed_ok Tryd.func59 (by rfl) (by kernel_rfl) ?_; rintro ⟨P, T, hT, hm, w0, S0, rd0, k0⟩ hP hTT; dsimp only at hP hTT; subst hP hTT; unfold initSt; rw [Tryd.ntmps59]
    (repeat (first | with_reducible refine AW.seq ?_ | ((first | refine arun_kn 4 rfl (fun C hC => ?_) | refine arunD_kn 4 rfl (fun C hC => ?_)); (repeat ((conv => whnf); simp [hneg, hlt, hq, hr, hw0, hw, hw8, hb1, hb2, hn, hap, hap2, hz, txt_size, aconv, isU8, bytesV, strV])); refine hC _ ?_; clear hC C; simp only [List.drop, Nat.reduceAdd]) | ((first | refine arun_kn 1 rfl (fun C hC => ?_) | refine arunD_kn 1 rfl (fun C hC => ?_)); (repeat ((conv => whnf); simp [hneg, hlt, hq, hr, hw0, hw, hw8, hb1, hb2, hn, hap, hap2, hz, txt_size, aconv, isU8, bytesV, strV])); refine hC _ ?_; clear hC C; simp only [List.drop, Nat.reduceAdd]) | (refine arun_skip ?_ ?_; (focus (simp [awant, hneg, hlt, hq, hr, hw0, hw, hw8, hb1, hb2, hn, hap, hap2, hz, txt_size, aconv, isU8, bytesV, strV]; done))) | (refine arun_c0 (pd) ?_; rintro _ rfl) | (refine arunD_c (0) (pd) ?_; rintro _ rfl; intro _) | (refine AW.regionK [] (fun K hK => ?_)) | (refine AW.regionDK [] (pcs [(2, 0, fun r => r = .str (txt D))] []) (by kernel_rfl) (by kernel_rfl) (fun K hK => ?_)) | (refine AW.condT ?_ ?_; (focus (simp [aev, hneg, hlt, hq, hr, hw0, hw, hw8, hb1, hb2, hn, hap, hap2, hz, txt_size, aconv, isU8, bytesV, strV]; done))) | (refine AW.condF ?_ ?_; (focus (simp [aev, hneg, hlt, hq, hr, hw0, hw, hw8, hb1, hb2, hn, hap, hap2, hz, txt_size, aconv, isU8, bytesV, strV]; done))) | with_reducible refine AW.block ?_ | ((first | ((first | refine arun_nil ?_ | refine arunD_nil ?_); refine hK _ ?_; clear hK K) | refine AW.skip ?_ | refine AW.exit ?_ | refine AW.ret ?_); simp only [thenA_exit, inBlockA_exit, if_true, if_false, Nat.reduceEqDiff, thenA_normal, inBlockA_normal, reduceIte, thenA_ret, inBlockA_ret, endQ_ret, endR_ret, endG_ret, endQ_normal, endR_normal, endG_normal])))
    exact ⟨.str (txt (D ++ [UInt8.ofNat (48 + m)])), by simp [ares, aresL, hap2], pur_str, rfl⟩
theorem decimalI_AC (m : Int) (hm : -999999 ≤ m ∧ m ≤ 999999) : AC Tryd.prog 59 [.int .i64 m] 0 (fun r => r = .str (txt (Lib.itoa m))) := by
  rcases Int.lt_or_le m 0 with h | h
  · have hne : (m == -m) = false := beq_false_of_ne (by omega)
    have hw : IntKind.i64.wrap (-m) = -m := i64_nat (by omega) (by omega)
    have hab : (-m : Int) = ((m.natAbs : Nat) : Int) := by omega
    have pd := decimalU_AC m.natAbs (by omega)
    rw [← hab] at pd
    have e : Lib.itoa m = 45 :: Lib.decDigits m.natAbs := by unfold Lib.itoa; rw [if_pos h]
    have hdl := digs_len 5 m.natAbs (by omega)
    rw [e]
    generalize Lib.decDigits m.natAbs = D at *
    have hap : ⟨#[45]⟩ ++ txt D = txt (45 :: D) := txt_app [45] D
    have hz : 1 + D.length ≤ 9223372036854775807 := by omega
    have hw' : IntKind.i64.wrap (0 - m) = -m := by rw [Int.zero_sub]; exact hw
    refine AC.of tab_ok mixed_ok Tryd.func59 (by rfl) (by kernel_rfl) ?_; rintro ⟨P, T, hT, hm, w0, S0, rd0, k0⟩ hP hTT; dsimp only at hP hTT; subst hP hTT; unfold initSt; rw [Tryd.ntmps59]
    (repeat (first | with_reducible refine AW.seq ?_ | ((first | refine arun_kn 4 rfl (fun C hC => ?_) | refine arunD_kn 4 rfl (fun C hC => ?_)); (repeat ((conv => whnf); simp [h, hne, hw, hw', hap, hz, txt_size])); refine hC _ ?_; clear hC C; simp only [List.drop, Nat.reduceAdd]) | ((first | refine arun_kn 1 rfl (fun C hC => ?_) | refine arunD_kn 1 rfl (fun C hC => ?_)); (repeat ((conv => whnf); simp [h, hne, hw, hw', hap, hz, txt_size])); refine hC _ ?_; clear hC C; simp only [List.drop, Nat.reduceAdd]) | (refine arun_skip ?_ ?_; (focus (simp [awant, h, hne, hw, hw', hap, hz, txt_size]; done))) | (refine arun_c0 (pd) ?_; rintro _ rfl) | (refine AW.regionK [] (fun K hK => ?_)) | (refine AW.regionDK [] (pcs [] []) (by kernel_rfl) (by kernel_rfl) (fun K hK => ?_)) | (refine AW.condT ?_ ?_; (focus (simp [aev, h, hne, hw, hw', hap, hz, txt_size]; done))) | (refine AW.condF ?_ ?_; (focus (simp [aev, h, hne, hw, hw', hap, hz, txt_size]; done))) | with_reducible refine AW.block ?_ | ((first | ((first | refine arun_nil ?_ | refine arunD_nil ?_); refine hK _ ?_; clear hK K) | refine AW.skip ?_ | refine AW.exit ?_ | refine AW.ret ?_); simp only [thenA_exit, inBlockA_exit, if_true, if_false, Nat.reduceEqDiff, thenA_normal, inBlockA_normal, reduceIte, thenA_ret, inBlockA_ret, endQ_ret, endR_ret, endG_ret, endQ_normal, endR_normal, endG_normal])))
    exact ⟨.str (txt (45 :: D)), by simp [ares, aresL], pur_str, rfl⟩
  · obtain ⟨u, rfl⟩ := Int.eq_ofNat_of_zero_le h
    have e : Lib.itoa (u : Int) = Lib.decDigits u := by unfold Lib.itoa; rw [if_neg (by omega)]; rfl
    rw [e]
    exact decimalU_AC u (by omega)
theorem quote_AC (s : ByteArray) (hs : s.size ≤ 12) : AC Tryd.prog 60 [.str s] 0 (fun r => r = .str (txt (quoT s.data.toList))) := by
  have hsl : s.data.toList.length = s.size := by simp
  refine AC.of tab_ok mixed_ok Tryd.func60 (by rfl) (by kernel_rfl) ?_; rintro ⟨P, T, hT, hm, w0, S0, rd0, k0⟩ hP hTT; dsimp only at hP hTT; subst hP hTT; unfold initSt; rw [Tryd.ntmps60]
  (repeat (first | with_reducible refine AW.seq ?_ | ((first | refine arun_kn 4 rfl (fun C hC => ?_) | refine arunD_kn 4 rfl (fun C hC => ?_)); (repeat ((conv => whnf); simp)); refine hC _ ?_; clear hC C; simp only [List.drop, Nat.reduceAdd]) | ((first | refine arun_kn 1 rfl (fun C hC => ?_) | refine arunD_kn 1 rfl (fun C hC => ?_)); (repeat ((conv => whnf); simp)); refine hC _ ?_; clear hC C; simp only [List.drop, Nat.reduceAdd]) | (refine arun_skip ?_ ?_; (focus (simp [awant]; done))) | (refine AW.regionK [] (fun K hK => ?_)) | (refine AW.regionDK [] (pcs [] []) (by kernel_rfl) (by kernel_rfl) (fun K hK => ?_)) | (refine AW.condT ?_ ?_; (focus (simp [aev]; done))) | (refine AW.condF ?_ ?_; (focus (simp [aev]; done))) | with_reducible refine AW.block ?_ | ((first | ((first | refine arun_nil ?_ | refine arunD_nil ?_); refine hK _ ?_; clear hK K) | refine AW.skip ?_ | refine AW.exit ?_ | refine AW.ret ?_); simp only [thenA_exit, inBlockA_exit, if_true, if_false, Nat.reduceEqDiff, thenA_normal, inBlockA_normal, reduceIte, thenA_ret, inBlockA_ret, endQ_ret, endR_ret, endG_ret, endQ_normal, endR_normal, endG_normal])))
  refine AW.loopS (fun (x : Nat × List UInt8) => mkSt (slots 0 32 [(0, .str s), (3, .str (txt x.2)), (4, .int .i64 x.1)]) [] [] (rd0.map fun _ => 0)) (fun x => s.size - x.1) (fun x => x.1 ≤ s.size ∧ x.2.length ≤ 1 + 2 * x.1 ∧ x.2 = 34 :: (s.data.toList.take x.1).flatMap escT) (0, [34]) ?_ ⟨Nat.zero_le _, by simp, by simp⟩ ?_
  · have h34 : txt [34] = ⟨#[34]⟩ := rfl
    dsimp only
    exact (less_of (by simp [lessL, mkSt, slots, h34]) (by simp [upd, mkSt, rowsOf_cons, h34]) (by simp [upd, mkSt, usedOf_cons, h34]) (by first | exact rd_less (by omega) | simp [mkSt, h34]) (by simp [slots, in_any, in_int, in_bool, in_str, in_ptr, in_own, in_agg, in_vnil, in_rdr, usedOf_cons, usedOf_nil, strs_in, ints_in, nodes_in, in_tup, h34]) (by simp only [List.forall_mem_cons, List.not_mem_nil, false_implies, implies_true, and_true, true_and, h34]; (repeat (first | with_reducible exact trivial | with_reducible refine And.intro ?_ ?_ | with_reducible exact in_int | with_reducible exact in_str | with_reducible exact in_bool | with_reducible exact strs_in _ | with_reducible exact nodes_in _ | with_reducible exact items_in _ | with_reducible exact in_vnil | with_reducible exact in_any | exact hin _ | with_reducible refine take_in ?_ | with_reducible exact strsE_in _ | with_reducible exact nodesE_in _ | with_reducible exact nodeL_in _ | with_reducible exact itemsE_in _ | with_reducible exact itemL_in _ | with_reducible refine app_in ?_ ?_ | with_reducible refine sing_in ?_ | (focus (simp [in_any, in_int, in_bool, in_str, in_ptr, in_own, in_agg, in_vnil, in_rdr, usedOf_cons, usedOf_nil, strs_in, ints_in, nodes_in, h34]; done)))); done))
  · rintro ⟨k, acc⟩ ⟨hk, hl, hf⟩
    dsimp only at hk hl hf ⊢
    by_cases hlt : k < s.size
    · have hg : s[k]? = some s[k] := by simp [hlt]
      have hw : IntKind.i64.wrap ((k : Int) + 1) = (k : Int) + 1 := i64_nat (by omega) (by omega)
      have hst : (s.data.toList.take (k + 1)).flatMap escT = (s.data.toList.take k).flatMap escT ++ escT s[k] := by
        rw [take_snoc' _ k (by omega), List.flatMap_append]; simp; rfl
      have hex : s.extract k (k + 1) = txt [s[k]] := by
        apply ByteArray.ext
        apply Array.ext
        · simp [txt]; omega
        · intro i h1 h2
          have : i = 0 := by simp [txt] at h2; omega
          subst this
          simp [txt]
          rfl
      have hc1 : (0 : Int) ≤ (k : Int) + 1 := by omega
      have hc2 : (k : Int) + 1 ≤ (s.size : Int) := by omega
      have hc3 : (k : Int) ≤ (k : Int) + 1 := by omega
      have hc4 : ((k : Int) + 1).toNat = k + 1 := by omega
      have hc5 : k + 1 ≤ s.size := by omega
      have hz1 : acc.length + 1 ≤ 9223372036854775807 := by omega
      have hz2 : acc.length + 1 + 1 ≤ 9223372036854775807 := by omega
      have ha1 : txt acc ++ ⟨#[92]⟩ = txt (acc ++ [92]) := txt_app acc [92]
      have ha2 : txt (acc ++ [92]) ++ txt [s[k]] = txt (acc ++ [92] ++ [s[k]]) := txt_app _ _
      have ha3 : txt acc ++ txt [s[k]] = txt (acc ++ [s[k]]) := txt_app _ _
      cases a1 : ((s[k].toNat : Int) == 34) <;> cases a2 : ((s[k].toNat : Int) == 92)
      · (repeat (first | with_reducible refine AW.seq ?_ | ((first | refine arun_kn 4 rfl (fun C hC => ?_) | refine arunD_kn 4 rfl (fun C hC => ?_)); (repeat ((conv => whnf); simp [hlt, hg, hw, hex, hc1, hc2, hc3, hc4, hc5, hz1, ha3, a1, a2, txt_size])); refine hC _ ?_; clear hC C; simp only [List.drop, Nat.reduceAdd]) | ((first | refine arun_kn 1 rfl (fun C hC => ?_) | refine arunD_kn 1 rfl (fun C hC => ?_)); (repeat ((conv => whnf); simp [hlt, hg, hw, hex, hc1, hc2, hc3, hc4, hc5, hz1, ha3, a1, a2, txt_size])); refine hC _ ?_; clear hC C; simp only [List.drop, Nat.reduceAdd]) | (refine arun_skip ?_ ?_; (focus (simp [awant, hlt, hg, hw, hex, hc1, hc2, hc3, hc4, hc5, hz1, ha3, a1, a2, txt_size]; done))) | (refine AW.regionK [] (fun K hK => ?_)) | (refine AW.regionDK [] (pcs [] []) (by kernel_rfl) (by kernel_rfl) (fun K hK => ?_)) | (refine AW.condT ?_ ?_; (focus (simp [aev, hlt, hg, hw, hex, hc1, hc2, hc3, hc4, hc5, hz1, ha3, a1, a2, txt_size]; done))) | (refine AW.condF ?_ ?_; (focus (simp [aev, hlt, hg, hw, hex, hc1, hc2, hc3, hc4, hc5, hz1, ha3, a1, a2, txt_size]; done))) | with_reducible refine AW.block ?_ | ((first | ((first | refine arun_nil ?_ | refine arunD_nil ?_); refine hK _ ?_; clear hK K) | refine AW.skip ?_ | refine AW.exit ?_ | refine AW.ret ?_); simp only [thenA_exit, inBlockA_exit, if_true, if_false, Nat.reduceEqDiff, thenA_normal, inBlockA_normal, reduceIte, thenA_ret, inBlockA_ret, endQ_ret, endR_ret, endG_ret, endQ_normal, endR_normal, endG_normal])))
        refine ⟨(k + 1, acc ++ [s[k]]), by dsimp only; omega, ⟨by dsimp only; omega, by dsimp only; simp only [List.length_append, List.length_cons, List.length_nil]; omega, by dsimp only; rw [hf, hst, esc_no a1 a2]; rfl⟩, ?_⟩
        dsimp only
        exact less_a
      all_goals
        (repeat (first | with_reducible refine AW.seq ?_ | ((first | refine arun_kn 4 rfl (fun C hC => ?_) | refine arunD_kn 4 rfl (fun C hC => ?_)); (repeat ((conv => whnf); simp [hlt, hg, hw, hex, hc1, hc2, hc3, hc4, hc5, hz1, hz2, ha1, ha2, a1, a2, txt_size])); refine hC _ ?_; clear hC C; simp only [List.drop, Nat.reduceAdd]) | ((first | refine arun_kn 1 rfl (fun C hC => ?_) | refine arunD_kn 1 rfl (fun C hC => ?_)); (repeat ((conv => whnf); simp [hlt, hg, hw, hex, hc1, hc2, hc3, hc4, hc5, hz1, hz2, ha1, ha2, a1, a2, txt_size])); refine hC _ ?_; clear hC C; simp only [List.drop, Nat.reduceAdd]) | (refine arun_skip ?_ ?_; (focus (simp [awant, hlt, hg, hw, hex, hc1, hc2, hc3, hc4, hc5, hz1, hz2, ha1, ha2, a1, a2, txt_size]; done))) | (refine AW.regionK [] (fun K hK => ?_)) | (refine AW.regionDK [] (pcs [] []) (by kernel_rfl) (by kernel_rfl) (fun K hK => ?_)) | (refine AW.condT ?_ ?_; (focus (simp [aev, hlt, hg, hw, hex, hc1, hc2, hc3, hc4, hc5, hz1, hz2, ha1, ha2, a1, a2, txt_size]; done))) | (refine AW.condF ?_ ?_; (focus (simp [aev, hlt, hg, hw, hex, hc1, hc2, hc3, hc4, hc5, hz1, hz2, ha1, ha2, a1, a2, txt_size]; done))) | with_reducible refine AW.block ?_ | ((first | ((first | refine arun_nil ?_ | refine arunD_nil ?_); refine hK _ ?_; clear hK K) | refine AW.skip ?_ | refine AW.exit ?_ | refine AW.ret ?_); simp only [thenA_exit, inBlockA_exit, if_true, if_false, Nat.reduceEqDiff, thenA_normal, inBlockA_normal, reduceIte, thenA_ret, inBlockA_ret, endQ_ret, endR_ret, endG_ret, endQ_normal, endR_normal, endG_normal])))
        refine ⟨(k + 1, acc ++ [92] ++ [s[k]]), by dsimp only; omega, ⟨by dsimp only; omega, by dsimp only; simp only [List.length_append, List.length_cons, List.length_nil]; omega, by dsimp only; rw [hf, hst, esc_yes (c := s[k]) (by simp [a1, a2])]; simp⟩, ?_⟩
        dsimp only
        exact less_a
    · have hall : s.data.toList.take k = s.data.toList := List.take_of_length_le (by omega)
      rw [hall] at hf
      have hz1 : acc.length + 1 ≤ 9223372036854775807 := by omega
      have ha1 : txt acc ++ ⟨#[34]⟩ = txt (acc ++ [34]) := txt_app acc [34]
      (repeat (first | with_reducible refine AW.seq ?_ | ((first | refine arun_kn 4 rfl (fun C hC => ?_) | refine arunD_kn 4 rfl (fun C hC => ?_)); (repeat ((conv => whnf); simp [hlt, hz1, ha1, txt_size])); refine hC _ ?_; clear hC C; simp only [List.drop, Nat.reduceAdd]) | ((first | refine arun_kn 1 rfl (fun C hC => ?_) | refine arunD_kn 1 rfl (fun C hC => ?_)); (repeat ((conv => whnf); simp [hlt, hz1, ha1, txt_size])); refine hC _ ?_; clear hC C; simp only [List.drop, Nat.reduceAdd]) | (refine arun_skip ?_ ?_; (focus (simp [awant, hlt, hz1, ha1, txt_size]; done))) | (refine AW.regionK [] (fun K hK => ?_)) | (refine AW.regionDK [] (pcs [] []) (by kernel_rfl) (by kernel_rfl) (fun K hK => ?_)) | (refine AW.condT ?_ ?_; (focus (simp [aev, hlt, hz1, ha1, txt_size]; done))) | (refine AW.condF ?_ ?_; (focus (simp [aev, hlt, hz1, ha1, txt_size]; done))) | with_reducible refine AW.block ?_ | ((first | ((first | refine arun_nil ?_ | refine arunD_nil ?_); refine hK _ ?_; clear hK K) | refine AW.skip ?_ | refine AW.exit ?_ | refine AW.ret ?_); simp only [thenA_exit, inBlockA_exit, if_true, if_false, Nat.reduceEqDiff, thenA_normal, inBlockA_normal, reduceIte, thenA_ret, inBlockA_ret, endQ_ret, endR_ret, endG_ret, endQ_normal, endR_normal, endG_normal])))
      exact ⟨.str (txt (acc ++ [34])), by simp [ares, aresL, ha1], pur_str, by rw [hf]; rfl⟩
theorem format_AC : ∀ n, Wr n → (fmtT n).length ≤ 900000 → AC Tryd.prog 37 [nodeA n] 0 (fun r => r = .str (txt (fmtT n))) := Nd.ind' _ (fun n ih hn hlen => by
  have hkd := hn.kind
  have hfe := fmtT_eq n
  have h6 := hn.kids
  unfold nodeA
  rw [nodeL_eq]
  obtain hk | hk | hk | hk | hk : n.kind = 0 ∨ n.kind = 1 ∨ n.kind = 2 ∨ n.kind = 3 ∨ n.kind = 4 := by omega
  · rw [hk] at hfe
    simp only [if_true] at hfe
    rw [hfe]
    refine AC.of tab_ok mixed_ok Tryd.func37 (by rfl) (by kernel_rfl) ?_; rintro ⟨P, T, hT, hm, w0, S0, rd0, k0⟩ hP hTT; dsimp only at hP hTT; subst hP hTT; unfold initSt; rw [Tryd.ntmps37]
    (repeat (first | with_reducible refine AW.seq ?_ | ((first | refine arun_kn 4 rfl (fun C hC => ?_) | refine arunD_kn 4 rfl (fun C hC => ?_)); (repeat ((conv => whnf); simp [hk])); refine hC _ ?_; clear hC C; simp only [List.drop, Nat.reduceAdd]) | ((first | refine arun_kn 1 rfl (fun C hC => ?_) | refine arunD_kn 1 rfl (fun C hC => ?_)); (repeat ((conv => whnf); simp [hk])); refine hC _ ?_; clear hC C; simp only [List.drop, Nat.reduceAdd]) | (refine arun_skip ?_ ?_; (focus (simp [awant, hk]; done))) | (refine AW.regionK [] (fun K hK => ?_)) | (refine AW.regionDK [] (pcs [] []) (by kernel_rfl) (by kernel_rfl) (fun K hK => ?_)) | (refine AW.condT ?_ ?_; (focus (simp [aev, hk]; done))) | (refine AW.condF ?_ ?_; (focus (simp [aev, hk]; done))) | with_reducible refine AW.block ?_ | ((first | ((first | refine arun_nil ?_ | refine arunD_nil ?_); refine hK _ ?_; clear hK K) | refine AW.skip ?_ | refine AW.exit ?_ | refine AW.ret ?_); simp only [thenA_exit, inBlockA_exit, if_true, if_false, Nat.reduceEqDiff, thenA_normal, inBlockA_normal, reduceIte, thenA_ret, inBlockA_ret, endQ_ret, endR_ret, endG_ret, endQ_normal, endR_normal, endG_normal])))
    exact ⟨.str (txt [110, 117, 108, 108]), by simp [ares, aresL, txt], pur_str, rfl⟩
  · rw [hk] at hfe
    simp at hfe
    rw [hfe]
    refine AC.of tab_ok mixed_ok Tryd.func37 (by rfl) (by kernel_rfl) ?_; rintro ⟨P, T, hT, hm, w0, S0, rd0, k0⟩ hP hTT; dsimp only at hP hTT; subst hP hTT; unfold initSt; rw [Tryd.ntmps37]
    (repeat (first | with_reducible refine AW.seq ?_ | ((first | refine arun_kn 4 rfl (fun C hC => ?_) | refine arunD_kn 4 rfl (fun C hC => ?_)); (repeat ((conv => whnf); simp [hk])); refine hC _ ?_; clear hC C; simp only [List.drop, Nat.reduceAdd]) | ((first | refine arun_kn 1 rfl (fun C hC => ?_) | refine arunD_kn 1 rfl (fun C hC => ?_)); (repeat ((conv => whnf); simp [hk])); refine hC _ ?_; clear hC C; simp only [List.drop, Nat.reduceAdd]) | (refine arun_skip ?_ ?_; (focus (simp [awant, hk]; done))) | (refine arun_c0 (decimalI_AC n.num hn.num) ?_; rintro _ rfl) | (refine AW.regionK [] (fun K hK => ?_)) | (refine AW.regionDK [] (pcs [] []) (by kernel_rfl) (by kernel_rfl) (fun K hK => ?_)) | (refine AW.condT ?_ ?_; (focus (simp [aev, hk]; done))) | (refine AW.condF ?_ ?_; (focus (simp [aev, hk]; done))) | with_reducible refine AW.block ?_ | ((first | ((first | refine arun_nil ?_ | refine arunD_nil ?_); refine hK _ ?_; clear hK K) | refine AW.skip ?_ | refine AW.exit ?_ | refine AW.ret ?_); simp only [thenA_exit, inBlockA_exit, if_true, if_false, Nat.reduceEqDiff, thenA_normal, inBlockA_normal, reduceIte, thenA_ret, inBlockA_ret, endQ_ret, endR_ret, endG_ret, endQ_normal, endR_normal, endG_normal])))
    exact ⟨.str (txt (Lib.itoa n.num)), by simp [ares, aresL], pur_str, rfl⟩
  · rw [hk] at hfe
    simp at hfe
    rw [hfe]
    refine AC.of tab_ok mixed_ok Tryd.func37 (by rfl) (by kernel_rfl) ?_; rintro ⟨P, T, hT, hm, w0, S0, rd0, k0⟩ hP hTT; dsimp only at hP hTT; subst hP hTT; unfold initSt; rw [Tryd.ntmps37]
    (repeat (first | with_reducible refine AW.seq ?_ | ((first | refine arun_kn 4 rfl (fun C hC => ?_) | refine arunD_kn 4 rfl (fun C hC => ?_)); (repeat ((conv => whnf); simp [hk])); refine hC _ ?_; clear hC C; simp only [List.drop, Nat.reduceAdd]) | ((first | refine arun_kn 1 rfl (fun C hC => ?_) | refine arunD_kn 1 rfl (fun C hC => ?_)); (repeat ((conv => whnf); simp [hk])); refine hC _ ?_; clear hC C; simp only [List.drop, Nat.reduceAdd]) | (refine arun_skip ?_ ?_; (focus (simp [awant, hk]; done))) | (refine arun_c0 (quote_AC n.text hn.text) ?_; rintro _ rfl) | (refine AW.regionK [] (fun K hK => ?_)) | (refine AW.regionDK [] (pcs [] []) (by kernel_rfl) (by kernel_rfl) (fun K hK => ?_)) | (refine AW.condT ?_ ?_; (focus (simp [aev, hk]; done))) | (refine AW.condF ?_ ?_; (focus (simp [aev, hk]; done))) | with_reducible refine AW.block ?_ | ((first | ((first | refine arun_nil ?_ | refine arunD_nil ?_); refine hK _ ?_; clear hK K) | refine AW.skip ?_ | refine AW.exit ?_ | refine AW.ret ?_); simp only [thenA_exit, inBlockA_exit, if_true, if_false, Nat.reduceEqDiff, thenA_normal, inBlockA_normal, reduceIte, thenA_ret, inBlockA_ret, endQ_ret, endR_ret, endG_ret, endQ_normal, endR_normal, endG_normal])))
    exact ⟨.str (txt (quoT n.text.data.toList)), by simp [ares, aresL], pur_str, by simp⟩
  · rw [hk] at hfe
    simp at hfe
    have hl1 : (fmtL false n.names n.kids 0).length + 2 ≤ 900000 := by
      rw [hfe] at hlen
      simp only [List.length_cons, List.length_append, List.length_nil] at hlen
      omega
    rw [hfe]
    clear hfe hlen
    refine AC.of tab_ok mixed_ok Tryd.func37 (by rfl) (by kernel_rfl) ?_; rintro ⟨P, T, hT, hm, w0, S0, rd0, k0⟩ hP hTT; dsimp only at hP hTT; subst hP hTT; unfold initSt; rw [Tryd.ntmps37]
    (repeat (first | with_reducible refine AW.seq ?_ | ((first | refine arun_kn 4 rfl (fun C hC => ?_) | refine arunD_kn 4 rfl (fun C hC => ?_)); (repeat ((conv => whnf); simp [hk])); refine hC _ ?_; clear hC C; simp only [List.drop, Nat.reduceAdd]) | ((first | refine arun_kn 1 rfl (fun C hC => ?_) | refine arunD_kn 1 rfl (fun C hC => ?_)); (repeat ((conv => whnf); simp [hk])); refine hC _ ?_; clear hC C; simp only [List.drop, Nat.reduceAdd]) | (refine arun_skip ?_ ?_; (focus (simp [awant, hk]; done))) | (refine AW.regionK [] (fun K hK => ?_)) | (refine AW.regionDK [] (pcs [] []) (by kernel_rfl) (by kernel_rfl) (fun K hK => ?_)) | (refine AW.condT ?_ ?_; (focus (simp [aev, hk]; done))) | (refine AW.condF ?_ ?_; (focus (simp [aev, hk]; done))) | with_reducible refine AW.block ?_ | ((first | ((first | refine arun_nil ?_ | refine arunD_nil ?_); refine hK _ ?_; clear hK K) | refine AW.skip ?_ | refine AW.exit ?_ | refine AW.ret ?_); simp only [thenA_exit, inBlockA_exit, if_true, if_false, Nat.reduceEqDiff, thenA_normal, inBlockA_normal, reduceIte, thenA_ret, inBlockA_ret, endQ_ret, endR_ret, endG_ret, endQ_normal, endR_normal, endG_normal])))
    refine AW.loopS (fun (x : Nat × List UInt8) => mkSt (slots 0 59 [(1, .ptr true 5 1 1 0 0), (3, .str (txt x.2)), (4, .int .i64 x.1)]) [(1, ⟨true, 30, 5, [nodeL n]⟩)] [1] (rd0.map fun _ => 0)) (fun x => n.kids.length - x.1) (fun x => x.1 ≤ n.kids.length ∧ x.2 = fmtL false n.names (n.kids.take x.1) 0) (0, []) ?_ ⟨Nat.zero_le _, by simp [fmtL]⟩ ?_
    · have h34 : txt [] = ⟨#[]⟩ := rfl
      rw [nodeL_eq]
      exact (less_of (by simp [lessL, mkSt, slots, h34, hk]) (by simp [upd, mkSt, rowsOf_cons, h34, hk]) (by simp [upd, mkSt, usedOf_cons, h34, hk]) (by first | exact rd_less (by omega) | simp [mkSt, h34, hk]) (by simp [slots, in_any, in_int, in_bool, in_str, in_ptr, in_own, in_agg, in_vnil, in_rdr, usedOf_cons, usedOf_nil, strs_in, ints_in, nodes_in, in_tup, h34, hk]) (by simp only [List.forall_mem_cons, List.not_mem_nil, false_implies, implies_true, and_true, true_and, h34, hk]; (repeat (first | with_reducible exact trivial | with_reducible refine And.intro ?_ ?_ | with_reducible exact in_int | with_reducible exact in_str | with_reducible exact in_bool | with_reducible exact strs_in _ | with_reducible exact nodes_in _ | with_reducible exact items_in _ | with_reducible exact in_vnil | with_reducible exact in_any | exact hin _ | with_reducible refine take_in ?_ | with_reducible exact strsE_in _ | with_reducible exact nodesE_in _ | with_reducible exact nodeL_in _ | with_reducible exact itemsE_in _ | with_reducible exact itemL_in _ | with_reducible refine app_in ?_ ?_ | with_reducible refine sing_in ?_ | (focus (simp [in_any, in_int, in_bool, in_str, in_ptr, in_own, in_agg, in_vnil, in_rdr, usedOf_cons, usedOf_nil, strs_in, ints_in, nodes_in, h34, hk]; done)))); done))
    · rintro ⟨i, acc⟩ ⟨hi, hf⟩
      dsimp only at hi hf ⊢
      rw [nodeL_eq]
      have hle := fmtL_le false n.names n.kids i
      rw [← hf] at hle
      by_cases hlt : i < n.kids.length
      · have hw : IntKind.i64.wrap ((i : Int) + 1) = (i : Int) + 1 := i64_nat (by omega) (by omega)
        have hsucc := fmtL_succ false n.names hlt
        have hle2 := fmtL_le false n.names n.kids (i + 1)
        rw [← hf] at hsucc
        have hsl := congrArg List.length hsucc
        simp only [List.length_append] at hsl
        have pk := ih n.kids[i] (List.getElem_mem hlt) (hn.kid _ (List.getElem_mem hlt)) (by omega)
        unfold nodeA at pk
        rw [nodeL_eq] at pk
        have hkl : (fmtT n.kids[i]).length ≤ 900000 := by omega
        have hal : acc.length ≤ 900000 := by omega
        simp only [Bool.false_eq_true, if_false, List.append_nil] at hsucc
        by_cases h0 : 0 < i
        · have h0' : (0 : Int) < (i : Int) := by omega
          rw [if_pos h0] at hsucc
          generalize fmtT n.kids[i] = F at *
          have ha1 : txt acc ++ ⟨#[44]⟩ = txt (acc ++ [44]) := txt_app acc [44]
          have ha2 : txt (acc ++ [44]) ++ txt F = txt (acc ++ [44] ++ F) := txt_app _ _
          have hz1 : acc.length + 1 ≤ 9223372036854775807 := by omega
          have hz2 : acc.length + 1 + F.length ≤ 9223372036854775807 := by omega
          (repeat (first | with_reducible refine AW.seq ?_ | ((first | refine arun_kn 4 rfl (fun C hC => ?_) | refine arunD_kn 4 rfl (fun C hC => ?_)); (repeat ((conv => whnf); simp [hlt, hk, h0, h0', hw, ha1, ha2, hz1, hz2, txt_size])); refine hC _ ?_; clear hC C; simp only [List.drop, Nat.reduceAdd]) | ((first | refine arun_kn 1 rfl (fun C hC => ?_) | refine arunD_kn 1 rfl (fun C hC => ?_)); (repeat ((conv => whnf); simp [hlt, hk, h0, h0', hw, ha1, ha2, hz1, hz2, txt_size])); refine hC _ ?_; clear hC C; simp only [List.drop, Nat.reduceAdd]) | (refine arun_skip ?_ ?_; (focus (simp [awant, hlt, hk, h0, h0', hw, ha1, ha2, hz1, hz2, txt_size]; done))) | (refine arun_c0 (pk) ?_; rintro _ rfl) | (refine AW.regionK [] (fun K hK => ?_)) | (refine AW.regionDK [] (pcs [] []) (by kernel_rfl) (by kernel_rfl) (fun K hK => ?_)) | (refine AW.condT ?_ ?_; (focus (simp [aev, hlt, hk, h0, h0', hw, ha1, ha2, hz1, hz2, txt_size]; done))) | (refine AW.condF ?_ ?_; (focus (simp [aev, hlt, hk, h0, h0', hw, ha1, ha2, hz1, hz2, txt_size]; done))) | with_reducible refine AW.block ?_ | ((first | ((first | refine arun_nil ?_ | refine arunD_nil ?_); refine hK _ ?_; clear hK K) | refine AW.skip ?_ | refine AW.exit ?_ | refine AW.ret ?_); simp only [thenA_exit, inBlockA_exit, if_true, if_false, Nat.reduceEqDiff, thenA_normal, inBlockA_normal, reduceIte, thenA_ret, inBlockA_ret, endQ_ret, endR_ret, endG_ret, endQ_normal, endR_normal, endG_normal])))
          refine ⟨(i + 1, acc ++ [44] ++ F), by dsimp only; omega, ⟨by dsimp only; omega, by dsimp only; rw [hsucc]; simp only [List.append_assoc]⟩, ?_⟩
          dsimp only
          exact (less_of (by simp [lessL, mkSt, slots, hk]) (by simp [upd, mkSt, rowsOf_cons, hk]) (by simp [upd, mkSt, usedOf_cons, hk]) (by first | exact rd_less (by omega) | simp [mkSt, hk]) (by simp [slots, in_any, in_int, in_bool, in_str, in_ptr, in_own, in_agg, in_vnil, in_rdr, usedOf_cons, usedOf_nil, strs_in, ints_in, nodes_in, in_tup, hk]) (by simp only [List.forall_mem_cons, List.not_mem_nil, false_implies, implies_true, and_true, true_and, hk]; (repeat (first | with_reducible exact trivial | with_reducible refine And.intro ?_ ?_ | with_reducible exact in_int | with_reducible exact in_str | with_reducible exact in_bool | with_reducible exact strs_in _ | with_reducible exact nodes_in _ | with_reducible exact items_in _ | with_reducible exact in_vnil | with_reducible exact in_any | exact hin _ | with_reducible refine take_in ?_ | with_reducible exact strsE_in _ | with_reducible exact nodesE_in _ | with_reducible exact nodeL_in _ | with_reducible exact itemsE_in _ | with_reducible exact itemL_in _ | with_reducible refine app_in ?_ ?_ | with_reducible refine sing_in ?_ | (focus (simp [in_any, in_int, in_bool, in_str, in_ptr, in_own, in_agg, in_vnil, in_rdr, usedOf_cons, usedOf_nil, strs_in, ints_in, nodes_in, hk]; done)))); done))
        · have h0' : ¬ (0 : Int) < (i : Int) := by omega
          rw [if_neg h0] at hsucc
          generalize fmtT n.kids[i] = F at *
          have ha2 : txt acc ++ txt F = txt (acc ++ F) := txt_app _ _
          have hz2 : acc.length + F.length ≤ 9223372036854775807 := by omega
          (repeat (first | with_reducible refine AW.seq ?_ | ((first | refine arun_kn 4 rfl (fun C hC => ?_) | refine arunD_kn 4 rfl (fun C hC => ?_)); (repeat ((conv => whnf); simp [hlt, hk, h0, h0', hw, ha2, hz2, txt_size])); refine hC _ ?_; clear hC C; simp only [List.drop, Nat.reduceAdd]) | ((first | refine arun_kn 1 rfl (fun C hC => ?_) | refine arunD_kn 1 rfl (fun C hC => ?_)); (repeat ((conv => whnf); simp [hlt, hk, h0, h0', hw, ha2, hz2, txt_size])); refine hC _ ?_; clear hC C; simp only [List.drop, Nat.reduceAdd]) | (refine arun_skip ?_ ?_; (focus (simp [awant, hlt, hk, h0, h0', hw, ha2, hz2, txt_size]; done))) | (refine arun_c0 (pk) ?_; rintro _ rfl) | (refine AW.regionK [] (fun K hK => ?_)) | (refine AW.regionDK [] (pcs [] []) (by kernel_rfl) (by kernel_rfl) (fun K hK => ?_)) | (refine AW.condT ?_ ?_; (focus (simp [aev, hlt, hk, h0, h0', hw, ha2, hz2, txt_size]; done))) | (refine AW.condF ?_ ?_; (focus (simp [aev, hlt, hk, h0, h0', hw, ha2, hz2, txt_size]; done))) | with_reducible refine AW.block ?_ | ((first | ((first | refine arun_nil ?_ | refine arunD_nil ?_); refine hK _ ?_; clear hK K) | refine AW.skip ?_ | refine AW.exit ?_ | refine AW.ret ?_); simp only [thenA_exit, inBlockA_exit, if_true, if_false, Nat.reduceEqDiff, thenA_normal, inBlockA_normal, reduceIte, thenA_ret, inBlockA_ret, endQ_ret, endR_ret, endG_ret, endQ_normal, endR_normal, endG_normal])))
          refine ⟨(i + 1, acc ++ F), by dsimp only; omega, ⟨by dsimp only; omega, by dsimp only; rw [hsucc]; rfl⟩, ?_⟩
          dsimp only
          exact (less_of (by simp [lessL, mkSt, slots, hk]) (by simp [upd, mkSt, rowsOf_cons, hk]) (by simp [upd, mkSt, usedOf_cons, hk]) (by first | exact rd_less (by omega) | simp [mkSt, hk]) (by simp [slots, in_any, in_int, in_bool, in_str, in_ptr, in_own, in_agg, in_vnil, in_rdr, usedOf_cons, usedOf_nil, strs_in, ints_in, nodes_in, in_tup, hk]) (by simp only [List.forall_mem_cons, List.not_mem_nil, false_implies, implies_true, and_true, true_and, hk]; (repeat (first | with_reducible exact trivial | with_reducible refine And.intro ?_ ?_ | with_reducible exact in_int | with_reducible exact in_str | with_reducible exact in_bool | with_reducible exact strs_in _ | with_reducible exact nodes_in _ | with_reducible exact items_in _ | with_reducible exact in_vnil | with_reducible exact in_any | exact hin _ | with_reducible refine take_in ?_ | with_reducible exact strsE_in _ | with_reducible exact nodesE_in _ | with_reducible exact nodeL_in _ | with_reducible exact itemsE_in _ | with_reducible exact itemL_in _ | with_reducible refine app_in ?_ ?_ | with_reducible refine sing_in ?_ | (focus (simp [in_any, in_int, in_bool, in_str, in_ptr, in_own, in_agg, in_vnil, in_rdr, usedOf_cons, usedOf_nil, strs_in, ints_in, nodes_in, hk]; done)))); done))
      · have hall : n.kids.take i = n.kids := List.take_of_length_le (by omega)
        rw [hall] at hf
        have ha1 : ⟨#[91]⟩ ++ txt acc = txt (91 :: acc) := txt_app [91] acc
        have ha2 : txt (91 :: acc) ++ ⟨#[93]⟩ = txt (91 :: acc ++ [93]) := txt_app _ [93]
        have hz1 : 1 + acc.length ≤ 9223372036854775807 := by omega
        have hz2 : acc.length + 1 + 1 ≤ 9223372036854775807 := by omega
        (repeat (first | with_reducible refine AW.seq ?_ | ((first | refine arun_kn 4 rfl (fun C hC => ?_) | refine arunD_kn 4 rfl (fun C hC => ?_)); (repeat ((conv => whnf); simp [hlt, hk, ha1, ha2, hz1, hz2, txt_size])); refine hC _ ?_; clear hC C; simp only [List.drop, Nat.reduceAdd]) | ((first | refine arun_kn 1 rfl (fun C hC => ?_) | refine arunD_kn 1 rfl (fun C hC => ?_)); (repeat ((conv => whnf); simp [hlt, hk, ha1, ha2, hz1, hz2, txt_size])); refine hC _ ?_; clear hC C; simp only [List.drop, Nat.reduceAdd]) | (refine arun_skip ?_ ?_; (focus (simp [awant, hlt, hk, ha1, ha2, hz1, hz2, txt_size]; done))) | (refine AW.regionK [] (fun K hK => ?_)) | (refine AW.regionDK [] (pcs [] []) (by kernel_rfl) (by kernel_rfl) (fun K hK => ?_)) | (refine AW.condT ?_ ?_; (focus (simp [aev, hlt, hk, ha1, ha2, hz1, hz2, txt_size]; done))) | (refine AW.condF ?_ ?_; (focus (simp [aev, hlt, hk, ha1, ha2, hz1, hz2, txt_size]; done))) | with_reducible refine AW.block ?_ | ((first | ((first | refine arun_nil ?_ | refine arunD_nil ?_); refine hK _ ?_; clear hK K) | refine AW.skip ?_ | refine AW.exit ?_ | refine AW.ret ?_); simp only [thenA_exit, inBlockA_exit, if_true, if_false, Nat.reduceEqDiff, thenA_normal, inBlockA_normal, reduceIte, thenA_ret, inBlockA_ret, endQ_ret, endR_ret, endG_ret, endQ_normal, endR_normal, endG_normal])))
        exact ⟨.str (txt (91 :: acc ++ [93])), by simp [ares, aresL], pur_str, by rw [hf]; rfl⟩
  · rw [hk] at hfe
    simp at hfe
    have hkn := hn.map hk
    have hl1 : (fmtL true n.names n.kids 0).length + 2 ≤ 900000 := by
      rw [hfe] at hlen
      simp only [List.length_cons, List.length_append, List.length_nil] at hlen
      omega
    rw [hfe]
    clear hfe hlen
    refine AC.of tab_ok mixed_ok Tryd.func37 (by rfl) (by kernel_rfl) ?_; rintro ⟨P, T, hT, hm, w0, S0, rd0, k0⟩ hP hTT; dsimp only at hP hTT; subst hP hTT; unfold initSt; rw [Tryd.ntmps37]
    (repeat (first | with_reducible refine AW.seq ?_ | ((first | refine arun_kn 4 rfl (fun C hC => ?_) | refine arunD_kn 4 rfl (fun C hC => ?_)); (repeat ((conv => whnf); simp [hk])); refine hC _ ?_; clear hC C; simp only [List.drop, Nat.reduceAdd]) | ((first | refine arun_kn 1 rfl (fun C hC => ?_) | refine arunD_kn 1 rfl (fun C hC => ?_)); (repeat ((conv => whnf); simp [hk])); refine hC _ ?_; clear hC C; simp only [List.drop, Nat.reduceAdd]) | (refine arun_skip ?_ ?_; (focus (simp [awant, hk]; done))) | (refine AW.regionK [] (fun K hK => ?_)) | (refine AW.regionDK [] (pcs [] []) (by kernel_rfl) (by kernel_rfl) (fun K hK => ?_)) | (refine AW.condT ?_ ?_; (focus (simp [aev, hk]; done))) | (refine AW.condF ?_ ?_; (focus (simp [aev, hk]; done))) | with_reducible refine AW.block ?_ | ((first | ((first | refine arun_nil ?_ | refine arunD_nil ?_); refine hK _ ?_; clear hK K) | refine AW.skip ?_ | refine AW.exit ?_ | refine AW.ret ?_); simp only [thenA_exit, inBlockA_exit, if_true, if_false, Nat.reduceEqDiff, thenA_normal, inBlockA_normal, reduceIte, thenA_ret, inBlockA_ret, endQ_ret, endR_ret, endG_ret, endQ_normal, endR_normal, endG_normal])))
    refine AW.loopS (fun (x : Nat × List UInt8) => mkSt (slots 0 59 [(1, .ptr true 5 1 1 0 0), (3, .str (txt x.2)), (4, .int .i64 x.1)]) [(1, ⟨true, 30, 5, [nodeL n]⟩)] [1] (rd0.map fun _ => 0)) (fun x => n.kids.length - x.1) (fun x => x.1 ≤ n.kids.length ∧ x.2 = fmtL true n.names (n.kids.take x.1) 0) (0, []) ?_ ⟨Nat.zero_le _, by simp [fmtL]⟩ ?_
    · have h34 : txt [] = ⟨#[]⟩ := rfl
      rw [nodeL_eq]
      exact (less_of (by simp [lessL, mkSt, slots, h34, hk]) (by simp [upd, mkSt, rowsOf_cons, h34, hk]) (by simp [upd, mkSt, usedOf_cons, h34, hk]) (by first | exact rd_less (by omega) | simp [mkSt, h34, hk]) (by simp [slots, in_any, in_int, in_bool, in_str, in_ptr, in_own, in_agg, in_vnil, in_rdr, usedOf_cons, usedOf_nil, strs_in, ints_in, nodes_in, in_tup, h34, hk]) (by simp only [List.forall_mem_cons, List.not_mem_nil, false_implies, implies_true, and_true, true_and, h34, hk]; (repeat (first | with_reducible exact trivial | with_reducible refine And.intro ?_ ?_ | with_reducible exact in_int | with_reducible exact in_str | with_reducible exact in_bool | with_reducible exact strs_in _ | with_reducible exact nodes_in _ | with_reducible exact items_in _ | with_reducible exact in_vnil | with_reducible exact in_any | exact hin _ | with_reducible refine take_in ?_ | with_reducible exact strsE_in _ | with_reducible exact nodesE_in _ | with_reducible exact nodeL_in _ | with_reducible exact itemsE_in _ | with_reducible exact itemL_in _ | with_reducible refine app_in ?_ ?_ | with_reducible refine sing_in ?_ | (focus (simp [in_any, in_int, in_bool, in_str, in_ptr, in_own, in_agg, in_vnil, in_rdr, usedOf_cons, usedOf_nil, strs_in, ints_in, nodes_in, h34, hk]; done)))); done))
    · rintro ⟨i, acc⟩ ⟨hi, hf⟩
      dsimp only at hi hf ⊢
      rw [nodeL_eq]
      have hle := fmtL_le true n.names n.kids i
      rw [← hf] at hle
      by_cases hlt : i < n.kids.length
      · have hw : IntKind.i64.wrap ((i : Int) + 1) = (i : Int) + 1 := i64_nat (by omega) (by omega)
        have hsucc := fmtL_succ true n.names hlt
        have hle2 := fmtL_le true n.names n.kids (i + 1)
        rw [← hf] at hsucc
        have hsl := congrArg List.length hsucc
        simp only [List.length_append] at hsl
        have pk := ih n.kids[i] (List.getElem_mem hlt) (hn.kid _ (List.getElem_mem hlt)) (by omega)
        unfold nodeA at pk
        rw [nodeL_eq] at pk
        have hkl : (fmtT n.kids[i]).length ≤ 900000 := by omega
        have hal : acc.length ≤ 900000 := by omega
        have hjn : i < n.names.length := by omega
        have pq := quote_AC n.names[i] (hn.names _ (List.getElem_mem hjn))
        simp only [if_true, List.getElem?_eq_getElem hjn, Option.getD_some] at hsucc hsl
        have hql := quo_len n.names[i].data.toList
        have hqn := hn.names _ (List.getElem_mem hjn)
        have hqs : n.names[i].data.toList.length = n.names[i].size := by simp
        generalize hQ : quoT n.names[i].data.toList = Q at *
        by_cases h0 : 0 < i
        · have h0' : (0 : Int) < (i : Int) := by omega
          rw [if_pos h0] at hsucc
          generalize fmtT n.kids[i] = F at *
          have ha1 : txt acc ++ ⟨#[44]⟩ = txt (acc ++ [44]) := txt_app acc [44]
          have ha2 : txt (acc ++ [44]) ++ txt Q = txt (acc ++ [44] ++ Q) := txt_app _ _
          have ha3 : txt (acc ++ [44] ++ Q) ++ ⟨#[58]⟩ = txt (acc ++ [44] ++ Q ++ [58]) := txt_app _ [58]
          have ha4 : txt (acc ++ [44] ++ Q ++ [58]) ++ txt F = txt (acc ++ [44] ++ Q ++ [58] ++ F) := txt_app _ _
          generalize hA1 : acc ++ [44] = A1 at *
          generalize hA2 : A1 ++ Q = A2 at *
          generalize hA3 : A2 ++ [58] = A3 at *
          have hn1 : A1.length = acc.length + 1 := by rw [← hA1]; simp
          have hn2 : A2.length = A1.length + Q.length := by rw [← hA2]; simp
          have hn3 : A3.length = A2.length + 1 := by rw [← hA3]; simp
          have hz1 : acc.length + 1 ≤ 9223372036854775807 := by omega
          have hz2 : A1.length + Q.length ≤ 9223372036854775807 := by omega
          have hz3 : A2.length + 1 ≤ 9223372036854775807 := by omega
          have hz4 : A3.length + F.length ≤ 9223372036854775807 := by omega
          clear hn1 hn2 hn3
          (repeat (first | with_reducible refine AW.seq ?_ | ((first | refine arun_kn 4 rfl (fun C hC => ?_) | refine arunD_kn 4 rfl (fun C hC => ?_)); (repeat ((conv => whnf); simp [hlt, hk, hjn, h0, h0', hw, ha1, ha2, ha3, ha4, hz1, hz2, hz3, hz4, txt_size])); refine hC _ ?_; clear hC C; simp only [List.drop, Nat.reduceAdd]) | ((first | refine arun_kn 1 rfl (fun C hC => ?_) | refine arunD_kn 1 rfl (fun C hC => ?_)); (repeat ((conv => whnf); simp [hlt, hk, hjn, h0, h0', hw, ha1, ha2, ha3, ha4, hz1, hz2, hz3, hz4, txt_size])); refine hC _ ?_; clear hC C; simp only [List.drop, Nat.reduceAdd]) | (refine arun_skip ?_ ?_; (focus (simp [awant, hlt, hk, hjn, h0, h0', hw, ha1, ha2, ha3, ha4, hz1, hz2, hz3, hz4, txt_size]; done))) | (refine arun_c0 (pq) ?_; rintro _ rfl) | (refine arun_c0 (pk) ?_; rintro _ rfl) | (refine AW.regionK [] (fun K hK => ?_)) | (refine AW.regionDK [] (pcs [] []) (by kernel_rfl) (by kernel_rfl) (fun K hK => ?_)) | (refine AW.condT ?_ ?_; (focus (simp [aev, hlt, hk, hjn, h0, h0', hw, ha1, ha2, ha3, ha4, hz1, hz2, hz3, hz4, txt_size]; done))) | (refine AW.condF ?_ ?_; (focus (simp [aev, hlt, hk, hjn, h0, h0', hw, ha1, ha2, ha3, ha4, hz1, hz2, hz3, hz4, txt_size]; done))) | with_reducible refine AW.block ?_ | ((first | ((first | refine arun_nil ?_ | refine arunD_nil ?_); refine hK _ ?_; clear hK K) | refine AW.skip ?_ | refine AW.exit ?_ | refine AW.ret ?_); simp only [thenA_exit, inBlockA_exit, if_true, if_false, Nat.reduceEqDiff, thenA_normal, inBlockA_normal, reduceIte, thenA_ret, inBlockA_ret, endQ_ret, endR_ret, endG_ret, endQ_normal, endR_normal, endG_normal])))
          refine ⟨(i + 1, A3 ++ F), by dsimp only; omega, ⟨by dsimp only; omega, by dsimp only; rw [hsucc, ← hA3, ← hA2, ← hA1]; simp only [List.append_assoc]⟩, ?_⟩
          dsimp only
          exact (less_of (by simp [lessL, mkSt, slots, hk]) (by simp [upd, mkSt, rowsOf_cons, hk]) (by simp [upd, mkSt, usedOf_cons, hk]) (by first | exact rd_less (by omega) | simp [mkSt, hk]) (by simp [slots, in_any, in_int, in_bool, in_str, in_ptr, in_own, in_agg, in_vnil, in_rdr, usedOf_cons, usedOf_nil, strs_in, ints_in, nodes_in, in_tup, hk]) (by simp only [List.forall_mem_cons, List.not_mem_nil, false_implies, implies_true, and_true, true_and, hk]; (repeat (first | with_reducible exact trivial | with_reducible refine And.intro ?_ ?_ | with_reducible exact in_int | with_reducible exact in_str | with_reducible exact in_bool | with_reducible exact strs_in _ | with_reducible exact nodes_in _ | with_reducible exact items_in _ | with_reducible exact in_vnil | with_reducible exact in_any | exact hin _ | with_reducible refine take_in ?_ | with_reducible exact strsE_in _ | with_reducible exact nodesE_in _ | with_reducible exact nodeL_in _ | with_reducible exact itemsE_in _ | with_reducible exact itemL_in _ | with_reducible refine app_in ?_ ?_ | with_reducible refine sing_in ?_ | (focus (simp [in_any, in_int, in_bool, in_str, in_ptr, in_own, in_agg, in_vnil, in_rdr, usedOf_cons, usedOf_nil, strs_in, ints_in, nodes_in, hk]; done)))); done))
        · have h0' : ¬ (0 : Int) < (i : Int) := by omega
          rw [if_neg h0] at hsucc
          generalize fmtT n.kids[i] = F at *
          have ha2 : txt acc ++ txt Q = txt (acc ++ Q) := txt_app _ _
          have ha3 : txt (acc ++ Q) ++ ⟨#[58]⟩ = txt (acc ++ Q ++ [58]) := txt_app _ [58]
          have ha4 : txt (acc ++ Q ++ [58]) ++ txt F = txt (acc ++ Q ++ [58] ++ F) := txt_app _ _
          generalize hA2 : acc ++ Q = A2 at *
          generalize hA3 : A2 ++ [58] = A3 at *
          have hn2 : A2.length = acc.length + Q.length := by rw [← hA2]; simp
          have hn3 : A3.length = A2.length + 1 := by rw [← hA3]; simp
          have hz2 : acc.length + Q.length ≤ 9223372036854775807 := by omega
          have hz3 : A2.length + 1 ≤ 9223372036854775807 := by omega
          have hz4 : A3.length + F.length ≤ 9223372036854775807 := by omega
          clear hn2 hn3
          (repeat (first | with_reducible refine AW.seq ?_ | ((first | refine arun_kn 4 rfl (fun C hC => ?_) | refine arunD_kn 4 rfl (fun C hC => ?_)); (repeat ((conv => whnf); simp [hlt, hk, hjn, h0, h0', hw, ha2, ha3, ha4, hz2, hz3, hz4, txt_size])); refine hC _ ?_; clear hC C; simp only [List.drop, Nat.reduceAdd]) | ((first | refine arun_kn 1 rfl (fun C hC => ?_) | refine arunD_kn 1 rfl (fun C hC => ?_)); (repeat ((conv => whnf); simp [hlt, hk, hjn, h0, h0', hw, ha2, ha3, ha4, hz2, hz3, hz4, txt_size])); refine hC _ ?_; clear hC C; simp only [List.drop, Nat.reduceAdd]) | (refine arun_skip ?_ ?_; (focus (simp [awant, hlt, hk, hjn, h0, h0', hw, ha2, ha3, ha4, hz2, hz3, hz4, txt_size]; done))) | (refine arun_c0 (pq) ?_; rintro _ rfl) | (refine arun_c0 (pk) ?_; rintro _ rfl) | (refine AW.regionK [] (fun K hK => ?_)) | (refine AW.regionDK [] (pcs [] []) (by kernel_rfl) (by kernel_rfl) (fun K hK => ?_)) | (refine AW.condT ?_ ?_; (focus (simp [aev, hlt, hk, hjn, h0, h0', hw, ha2, ha3, ha4, hz2, hz3, hz4, txt_size]; done))) | (refine AW.condF ?_ ?_; (focus (simp [aev, hlt, hk, hjn, h0, h0', hw, ha2, ha3, ha4, hz2, hz3, hz4, txt_size]; done))) | with_reducible refine AW.block ?_ | ((first | ((first | refine arun_nil ?_ | refine arunD_nil ?_); refine hK _ ?_; clear hK K) | refine AW.skip ?_ | refine AW.exit ?_ | refine AW.ret ?_); simp only [thenA_exit, inBlockA_exit, if_true, if_false, Nat.reduceEqDiff, thenA_normal, inBlockA_normal, reduceIte, thenA_ret, inBlockA_ret, endQ_ret, endR_ret, endG_ret, endQ_normal, endR_normal, endG_normal])))
          refine ⟨(i + 1, A3 ++ F), by dsimp only; omega, ⟨by dsimp only; omega, by dsimp only; rw [hsucc, ← hA3, ← hA2]; simp only [List.append_assoc, List.nil_append]⟩, ?_⟩
          dsimp only
          exact (less_of (by simp [lessL, mkSt, slots, hk]) (by simp [upd, mkSt, rowsOf_cons, hk]) (by simp [upd, mkSt, usedOf_cons, hk]) (by first | exact rd_less (by omega) | simp [mkSt, hk]) (by simp [slots, in_any, in_int, in_bool, in_str, in_ptr, in_own, in_agg, in_vnil, in_rdr, usedOf_cons, usedOf_nil, strs_in, ints_in, nodes_in, in_tup, hk]) (by simp only [List.forall_mem_cons, List.not_mem_nil, false_implies, implies_true, and_true, true_and, hk]; (repeat (first | with_reducible exact trivial | with_reducible refine And.intro ?_ ?_ | with_reducible exact in_int | with_reducible exact in_str | with_reducible exact in_bool | with_reducible exact strs_in _ | with_reducible exact nodes_in _ | with_reducible exact items_in _ | with_reducible exact in_vnil | with_reducible exact in_any | exact hin _ | with_reducible refine take_in ?_ | with_reducible exact strsE_in _ | with_reducible exact nodesE_in _ | with_reducible exact nodeL_in _ | with_reducible exact itemsE_in _ | with_reducible exact itemL_in _ | with_reducible refine app_in ?_ ?_ | with_reducible refine sing_in ?_ | (focus (simp [in_any, in_int, in_bool, in_str, in_ptr, in_own, in_agg, in_vnil, in_rdr, usedOf_cons, usedOf_nil, strs_in, ints_in, nodes_in, hk]; done)))); done))
      · have hall : n.kids.take i = n.kids := List.take_of_length_le (by omega)
        rw [hall] at hf
        have ha1 : ⟨#[123]⟩ ++ txt acc = txt (123 :: acc) := txt_app [123] acc
        have ha2 : txt (123 :: acc) ++ ⟨#[125]⟩ = txt (123 :: acc ++ [125]) := txt_app _ [125]
        have hz1 : 1 + acc.length ≤ 9223372036854775807 := by omega
        have hz2 : acc.length + 1 + 1 ≤ 9223372036854775807 := by omega
        (repeat (first | with_reducible refine AW.seq ?_ | ((first | refine arun_kn 4 rfl (fun C hC => ?_) | refine arunD_kn 4 rfl (fun C hC => ?_)); (repeat ((conv => whnf); simp [hlt, hk, ha1, ha2, hz1, hz2, txt_size])); refine hC _ ?_; clear hC C; simp only [List.drop, Nat.reduceAdd]) | ((first | refine arun_kn 1 rfl (fun C hC => ?_) | refine arunD_kn 1 rfl (fun C hC => ?_)); (repeat ((conv => whnf); simp [hlt, hk, ha1, ha2, hz1, hz2, txt_size])); refine hC _ ?_; clear hC C; simp only [List.drop, Nat.reduceAdd]) | (refine arun_skip ?_ ?_; (focus (simp [awant, hlt, hk, ha1, ha2, hz1, hz2, txt_size]; done))) | (refine AW.regionK [] (fun K hK => ?_)) | (refine AW.regionDK [] (pcs [] []) (by kernel_rfl) (by kernel_rfl) (fun K hK => ?_)) | (refine AW.condT ?_ ?_; (focus (simp [aev, hlt, hk, ha1, ha2, hz1, hz2, txt_size]; done))) | (refine AW.condF ?_ ?_; (focus (simp [aev, hlt, hk, ha1, ha2, hz1, hz2, txt_size]; done))) | with_reducible refine AW.block ?_ | ((first | ((first | refine arun_nil ?_ | refine arunD_nil ?_); refine hK _ ?_; clear hK K) | refine AW.skip ?_ | refine AW.exit ?_ | refine AW.ret ?_); simp only [thenA_exit, inBlockA_exit, if_true, if_false, Nat.reduceEqDiff, thenA_normal, inBlockA_normal, reduceIte, thenA_ret, inBlockA_ret, endQ_ret, endR_ret, endG_ret, endQ_normal, endR_normal, endG_normal])))
        exact ⟨.str (txt (123 :: acc ++ [125])), by simp [ares, aresL], pur_str, by rw [hf]; rfl⟩)
theorem fmt_ok {n : Nd} (h : validB n = true) : Wr n ∧ (fmtT n).length ≤ 2800 ∧ fmtS n = txt (fmtT n) := by
  have h2 := h
  unfold validB at h2
  rw [Bool.and_eq_true] at h2
  have hw := valid_wr h2.1
  have hc : n.count ≤ 40 := by simpa using h2.2
  have := fmt_len hw
  exact ⟨hw, by omega, by unfold fmtS txt; rw [h]; rfl⟩
end Go.Proofs.YtoedpagdklagdaaDoor.Eng
namespace Go.Proofs.YtoedpagdklagdaaDoor
open Go.RowKit
def TW (w : World) : Prop := Tb w.heap.size w
theorem TW.grow {w w' : World} (h : TW w) (hg : Grow w w') : TW w' := (Tb.below h (below_of hg)).mono hg.size
structure NB (w : World) (k : Nat) (n : Nd) (na : Option Addr) (nc : Nat) (ka : Option Addr) (kc : Nat) : Prop where
  box : w.heap[k]? = some (.cells #[.int .i64 n.kind, .int .i64 n.num, .string n.text, .slice na n.names.length nc, .slice ka n.kids.length kc] 30 (0, 0))
  node : NodeR w any n (nodeV n na nc ka kc)
theorem NB.grow {w w' : World} {k : Nat} {n : Nd} {na : Option Addr} {nc : Nat} {ka : Option Addr} {kc : Nat} (h : NB w k n na nc ka kc) (hg : Grow w w') : NB w' k n na nc ka kc :=
  ⟨(hg.block k (Array.getElem?_eq_some_iff.1 h.box).1 (fun h => h)).trans h.box, h.node.grow hg⟩
theorem NB.new {w : World} {n : Nd} {na : Option Addr} {nc : Nat} {ka : Option Addr} {kc : Nat} (h : NodeR w any n (nodeV n na nc ka kc)) :
    NB (w.alloc (.cells #[.int .i64 n.kind, .int .i64 n.num, .string n.text, .slice na n.names.length nc, .slice ka n.kids.length kc] 30)) w.heap.size n na nc ka kc :=
  ⟨heap_alloc_new w _, h.grow ((Ext.refl _ _).alloc _)⟩
theorem NB.cells {w : World} {k : Nat} {n : Nd} {na : Option Addr} {nc : Nat} {ka : Option Addr} {kc : Nat} (h : NB w k n na nc ka kc) :
    w.cell? ⟨k, 0, none⟩ = some (.int .i64 n.kind) ∧ w.cell? ⟨k, 1, none⟩ = some (.int .i64 n.num) ∧ w.cell? ⟨k, 2, none⟩ = some (.string n.text) ∧ w.cell? ⟨k, 3, none⟩ = some (.slice na n.names.length nc) ∧ w.cell? ⟨k, 4, none⟩ = some (.slice ka n.kids.length kc) := by
  refine ⟨?_, ?_, ?_, ?_, ?_⟩ <;> (rw [Lib.cell_of_heap h.box]; rfl)
end Go.Proofs.YtoedpagdklagdaaDoor
namespace Go.Proofs.YtoedpagdklagdaaDoor
open Go.RowKit
def sumZ (l : List Itm) : Nat := (l.map fun x => x.1.size + (fmtT x.2.2).length).sum
def stZ (s : Sto) : Int := if storeB s then (sumZ s.1 : Nat) else -1
theorem sumZ_snoc (l : List Itm) (x : Itm) : sumZ (l ++ [x]) = sumZ l + (x.1.size + (fmtT x.2.2).length) := by simp [sumZ]
theorem sumZ_take {l : List Itm} {k : Nat} (h : k < l.length) : sumZ (l.take (k + 1)) = sumZ (l.take k) + (l[k].1.size + (fmtT l[k].2.2).length) := by
  rw [take_snoc' _ _ h, sumZ_snoc]
theorem item_ok {s : Sto} (h : storeB s = true) {x : Itm} (hx : x ∈ s.1) : validB x.2.2 = true ∧ x.1.size ≤ 8 := by
  have h1 := (storeB_parts h).2.2.2.1 x hx
  unfold itmB at h1
  simp only [Bool.and_eq_true] at h1
  refine ⟨h1.2, ?_⟩
  have := h1.1.1
  unfold nameB at this
  simp only [Bool.and_eq_true, decide_eq_true_eq] at this
  exact this.1.2
theorem sumZ_le {l : List Itm} (h : ∀ x ∈ l, validB x.2.2 = true ∧ x.1.size ≤ 8) : sumZ l ≤ 3000 * l.length := by
  induction l with
  | nil => simp [sumZ]
  | cons x l ih =>
    have h1 := h x (by simp)
    have h2 := (Eng.fmt_ok h1.1).2.1
    have h3 := ih (fun y hy => h y (by simp [hy]))
    unfold sumZ at h3 ⊢
    simp only [List.map_cons, List.sum_cons, List.length_cons]
    omega
theorem itemSize_ok (x : Itm) (na : Option Addr) (nc : Nat) (ka : Option Addr) (kc : Nat) (w : World) (hn : NodeR w any x.2.2 (nodeV x.2.2 na nc ka kc)) (ht : TW w) (hv : validB x.2.2 = true) (hs : x.1.size ≤ 8) :
    Calls Tryd.prog 55 #[.agg #[.string x.1, .int .i64 x.2.1, .int .i64 x.2.2.kind, .int .i64 x.2.2.num, .string x.2.2.text, .slice na x.2.2.names.length nc, .slice ka x.2.2.kids.length kc]] w fun e w' => e = .returned (.int .i64 ((x.1.size + (fmtT x.2.2).length : Nat) : Int)) ∧ Grow w w' := by
  have hl := (Eng.fmt_ok hv).2.1
  have hz : fmtZ x.2.2 = ((fmtT x.2.2).length : Int) := by unfold fmtZ; rw [hv]; rfl
  have Hz := Lib.hid hz
  generalize (fmtT x.2.2).length = L at *
  obtain ⟨W, hW⟩ : ∃ W, W = w.alloc (.cells #[.string x.1, .int .i64 x.2.1, .int .i64 x.2.2.kind, .int .i64 x.2.2.num, .string x.2.2.text, .slice na x.2.2.names.length nc, .slice ka x.2.2.kids.length kc] 74) := ⟨_, rfl⟩
  have hgW : Grow w W := by rw [hW]; exact (Ext.refl nil w).alloc _
  have hb := BoxN.new w [.string x.1, .int .i64 x.2.1, .int .i64 x.2.2.kind, .int .i64 x.2.2.num, .string x.2.2.text, .slice na x.2.2.names.length nc, .slice ka x.2.2.kids.length kc] 74
  have HB : Hid (BoxN W w.heap.size [.string x.1, .int .i64 x.2.1, .int .i64 x.2.2.kind, .int .i64 x.2.2.num, .string x.2.2.text, .slice na x.2.2.names.length nc, .slice ka x.2.2.kids.length kc]) := Lib.hid (by rw [hW]; exact hb)
  have Hn := Lib.hid (hn.grow hgW)
  have Ht := Lib.hid (ht.grow hgW)
  have HgW := Lib.hid hgW
  have HW := Lib.hid hW
  clear hn ht hv hz hb hgW hW
  go_enter Tryd.func55, Tryd.ntmps55
  go_wp2_with fail
  rw [← HW.out]
  have p0 := HB.out.cell 0 _ rfl
  have p2 := HB.out.cell 2 _ rfl
  have p3 := HB.out.cell 3 _ rfl
  have p4 := HB.out.cell 4 _ rfl
  have p5 := HB.out.cell 5 _ rfl
  have p6 := HB.out.cell 6 _ rfl
  (refine wp_region_later (by kernel_rfl) (by kernel_rfl) ?_; (repeat (first | go_big_quiet_step ((go_at_call 17; exact later_call (v := .int .i64 (L : Int)) ((TextSize_ok x.2.2 _ _ (Hn.out.grow (later_grow _ _)) (Ht.out.grow (later_grow _ _))).mono (fun e w' h => ⟨by rw [← Hz.out]; exact h.1, h.2⟩)))) | quiet_step ((go_at_call 17; exact later_call (v := .int .i64 (L : Int)) ((TextSize_ok x.2.2 _ _ (Hn.out.grow (later_grow _ _)) (Ht.out.grow (later_grow _ _))).mono (fun e w' h => ⟨by rw [← Hz.out]; exact h.1, h.2⟩)))))); refine wpQuiet_nil ?_; rintro _ ⟨x_w2, rfl⟩; have hg_w2 := later_grow W x_w2; generalize later W x_w2 = w2 at hg_w2 ⊢)
  go_wp2_with fail
  go_ret
  exact ⟨by simp, HgW.out.trans hg_w2⟩
theorem implStoreSize_ok (s : Sto) (v : Value) (w : World) (ht : TW w) (h : RV stoRep packA w any s v) :
    Calls Tryd.prog 32 #[v] w fun e w' => e = .returned (.int .i64 (stZ s)) ∧ Grow w w' := by
  have Hh := Lib.hid h
  have Ht := Lib.hid ht
  obtain ⟨a, c, rfl, hs⟩ := sto_open h
  have hbig : s.1.length ≤ 9223372036854775807 := hs.2.1
  have Hs := Lib.hid hs
  clear h hs ht
  unfold stoV at *
  have HB := Lib.hid (BoxN.new w [.slice a s.1.length c, .int .i64 s.2] 47)
  cases hb : storeB s
  · have Hf : Hid (stZ s = -1) := Lib.hid (by unfold stZ; rw [hb]; rfl)
    go_enter Tryd.func32, Tryd.ntmps32
    go_wp2_with (go_at_call 54; refine (ValidStore_ok s _ _ (Hh.out.grow ((Ext.refl nil w).alloc _))).mono ?_; rintro e w1 ⟨rfl, hg1⟩; simp only [hb])
    go_ret
    exact ⟨by rw [Hf.out]; rfl, ((Ext.refl _ _).alloc _).trans hg1⟩
  · have hall := fun x (hx : x ∈ s.1) => item_ok hb hx
    have h10 := (storeB_parts hb).1
    have Hf : Hid (stZ s = (sumZ s.1 : Nat)) := Lib.hid (by unfold stZ; rw [hb]; rfl)
    have Hall := Lib.hid hall
    clear hall
    go_enter Tryd.func32, Tryd.ntmps32
    go_wp2_with (go_at_call 54; refine (ValidStore_ok s _ _ (Hh.out.grow ((Ext.refl nil w).alloc _))).mono ?_; rintro e w1 ⟨rfl, hg1⟩; simp only [hb]; have G1 := Lib.hid (((Ext.refl nil w).alloc _).trans hg1); have hB := HB.out.grow hg1; have q0 := hB.cell 0 _ rfl; have q1 := hB.cell 1 _ rfl; clear hB hg1)
    go_loopw [3, 5, 12] (fun u _ i wr => Hid (Grow w wr) ∧ ∃ k : Nat, k ≤ s.1.length ∧ i = .int .i64 k ∧ u = .int .i64 ((sumZ (s.1.take k) : Nat) : Int)) (fun _ _ i _ => s.1.length - (intOf i).toNat)
    case atStart => exact ⟨G1, 0, Nat.zero_le _, rfl, rfl⟩
    case round =>
      obtain ⟨Hg, k, hk, rfl, rfl⟩ := hrel
      clear q0 q1
      have hsz : sumZ (s.1.take k) ≤ 3000 * 10 := by
        have h1 := sumZ_le (l := s.1.take k) (fun x hx => Hall.out x (List.mem_of_mem_take hx))
        have h2 : (s.1.take k).length ≤ 10 := by rw [List.length_take]; omega
        omega
      by_cases hlt : k < s.1.length
      · obtain ⟨_, _, hks⟩ := (Hs.out).grow Hg.out
        rcases hks with hks | ⟨bk, ok, rfl, _, hkr⟩
        · simp [hks] at hlt
        obtain ⟨cs, hcs, hx⟩ := hkr k hlt
        obtain ⟨na0, nc0, ka0, kc0, rfl, _, h0⟩ := itmRep_open hx
        rw [itmRep_n] at hcs
        have x0 : wr.cell? ⟨bk, ok + k * 7, none⟩ = _ := hcs 0 _ rfl
        have x1 := hcs 1 _ rfl
        have x2 := hcs 2 _ rfl
        have x3 := hcs 3 _ rfl
        have x4 := hcs 4 _ rfl
        have x5 := hcs 5 _ rfl
        have x6 := hcs 6 _ rfl
        have H0 : Hid (NodeR wr any s.1[k].2.2 (nodeV s.1[k].2.2 na0 nc0 ka0 kc0)) := Lib.hid ⟨_, _, _, _, rfl, h0⟩
        have hit := Hall.out _ (List.getElem_mem hlt)
        have hfl := (Eng.fmt_ok hit.1).2.1
        have Hit := Lib.hid hit
        have Hst := Lib.hid (sumZ_take hlt)
        have Ht2 := Lib.hid (Ht.out.grow Hg.out)
        clear hkr hcs hx h0
        have hs8 := hit.2
        clear hit
        generalize sumZ (s.1.take k) = Z at *
        go_wp2_with (go_at_call 55; refine (itemSize_ok s.1[k] na0 nc0 ka0 kc0 _ (H0.out.grow ((Ext.refl nil _).alloc _)) (Ht2.out.grow ((Ext.refl nil _).alloc _)) Hit.out.1 Hit.out.2).mono ?_; rintro e w2 ⟨rfl, hg2⟩; have G2 := Lib.hid ((Hg.out.alloc _).trans hg2); clear hg2)
        go_roundw
        case rel => exact ⟨G2, k + 1, by omega, by go_num, by rw [Hst.out]; go_num⟩
        case measure => simp [intOf]; omega
      · have hall : s.1.take k = s.1 := List.take_of_length_le (by omega)
        rw [hall]
        go_wp2_with fail
        go_ret
        exact ⟨by rw [Hf.out]; rfl, Hg.out⟩
end Go.Proofs.YtoedpagdklagdaaDoor
-- EV: store
namespace Go.Proofs.YtoedpagdklagdaaDoor.Eng
open Go Go.RowKit
attribute [local simp] big size_mk ASt.pay Option.map_map Function.comp_def awant aop acall ado aev ofVal ofVal0 ASt.put ASt.add ASt.turn ASt.kill abox aalloc astore aload ASt.at cellsTo afieldAddr afield aindexAddr aindex alen abin aint acmp astr aun apick aextract anil aslice abound abuild afill abuildSlice asCells aps avCells over upd aappend asrc amax amin aconv mkSt slots rowsOf_cons rowsOf_nil usedOf_cons usedOf_nil ZK.av List.replicate ASt.back ASt.addL ASt.killL nodeA nodeT nodeTL_eq nodeL_eq strsE_get strsE_len intsE_get intsE_len strsE_at intsE_at itemA itemL_eq storeA storeT storeO itemsRow tab2 tab3 tab4 tab5 tab6 tab7 tab8 tab9 tab10 tab11 tab12 tab13 tab14 tab15 tab16 tab17 tab18 tab19 tab21 tab22 tab23 tab24 tab25 tab28 tab29 tab30 tab35 tab40 tab41 tab42 tab45 tab46 tab47 tab55 tab56 tab57 tab63 tab73 tab74 tab84 tab87 tab89 tab90 tab93 tab94 tab109 tab120 tab123 tab128 tab129 tab134 tab135 tab137 tab138
theorem size_AC (s : Sto) (t : VC) (h10 : s.1.length ≤ 10) (hall : ∀ x ∈ s.1, validB x.2.2 = true ∧ x.1.size ≤ 8) : AC Tryd.prog 52 [storeT t s] 0 (fun r => r = .int .i64 (sumZ s.1 : Nat)) := by
  unfold storeT
  refine AC.of tab_ok mixed_ok Tryd.func52 (by rfl) (by kernel_rfl) ?_; rintro ⟨P, T, hT, hm, w0, S0, rd0, k0⟩ hP hTT; dsimp only at hP hTT; subst hP hTT; unfold initSt; rw [Tryd.ntmps52]
  (repeat (first | with_reducible refine AW.seq ?_ | ((first | refine arun_kn 4 rfl (fun C hC => ?_) | refine arunD_kn 4 rfl (fun C hC => ?_)); (repeat ((conv => whnf); simp)); refine hC _ ?_; clear hC C; simp only [List.drop, Nat.reduceAdd]) | ((first | refine arun_kn 1 rfl (fun C hC => ?_) | refine arunD_kn 1 rfl (fun C hC => ?_)); (repeat ((conv => whnf); simp)); refine hC _ ?_; clear hC C; simp only [List.drop, Nat.reduceAdd]) | (refine arun_skip ?_ ?_; (focus (simp [awant]; done))) | (refine AW.regionK [] (fun K hK => ?_)) | (refine AW.regionDK [] (pcs [] []) (by kernel_rfl) (by kernel_rfl) (fun K hK => ?_)) | (refine AW.condT ?_ ?_; (focus (simp [aev]; done))) | (refine AW.condF ?_ ?_; (focus (simp [aev]; done))) | with_reducible refine AW.block ?_ | ((first | ((first | refine arun_nil ?_ | refine arunD_nil ?_); refine hK _ ?_; clear hK K) | refine AW.skip ?_ | refine AW.exit ?_ | refine AW.ret ?_); simp only [thenA_exit, inBlockA_exit, if_true, if_false, Nat.reduceEqDiff, thenA_normal, inBlockA_normal, reduceIte, thenA_ret, inBlockA_ret, endQ_ret, endR_ret, endG_ret, endQ_normal, endR_normal, endG_normal])))
  refine AW.loopS (fun (x : Nat × Nat) => mkSt (slots 0 31 [(1, .ptr true 2 1 1 0 0), (2, .int .i64 0), (3, .int .i64 x.2), (4, .int .i64 x.1)]) [(1, ⟨true, 47, 2, [[.view t 7 (s.1.map itemL), .int .i64 s.2]]⟩)] [1] (rd0.map fun _ => 0)) (fun x => s.1.length - x.1) (fun x => x.1 ≤ s.1.length ∧ x.2 = sumZ (s.1.take x.1)) (0, 0) ?_ ⟨Nat.zero_le _, rfl⟩ ?_
  · exact less_s
  · rintro ⟨i, Z⟩ ⟨hi, hf⟩
    dsimp only at hi hf ⊢
    have hsz : Z ≤ 3000 * 10 := by
      have h1 := sumZ_le (l := s.1.take i) (fun x hx => hall x (List.mem_of_mem_take hx))
      have h2 : (s.1.take i).length ≤ 10 := by rw [List.length_take]; omega
      omega
    by_cases hlt : i < s.1.length
    · have hw : IntKind.i64.wrap ((i : Int) + 1) = (i : Int) + 1 := i64_nat (by omega) (by omega)
      have hit := hall _ (List.getElem_mem hlt)
      have hst := sumZ_take hlt
      rw [← hf] at hst
      have hfo := fmt_ok hit.1
      have p2 := format_AC s.1[i].2.2 hfo.1 (by omega)
      unfold nodeA at p2
      rw [nodeL_eq] at p2
      have hfl := hfo.2.1
      have hs8 := hit.2
      clear hfo hit
      generalize fmtT s.1[i].2.2 = F at *
      have hw1 : IntKind.i64.wrap ((Z : Int) + (s.1[i].1.size : Int)) = (Z : Int) + (s.1[i].1.size : Int) := i64_nat (by omega) (by omega)
      have hw2 : IntKind.i64.wrap ((Z : Int) + (s.1[i].1.size : Int) + (F.length : Int)) = (Z : Int) + (s.1[i].1.size : Int) + (F.length : Int) := i64_nat (by omega) (by omega)
      have hfin : ((sumZ (s.1.take (i + 1)) : Nat) : Int) = (Z : Int) + (s.1[i].1.size : Int) + (F.length : Int) := by rw [hst]; omega
      (repeat (first | with_reducible refine AW.seq ?_ | ((first | refine arun_kn 4 rfl (fun C hC => ?_) | refine arunD_kn 4 rfl (fun C hC => ?_)); (repeat ((conv => whnf); simp [hlt, hw, hw1, hw2, txt_size])); refine hC _ ?_; clear hC C; simp only [List.drop, Nat.reduceAdd]) | ((first | refine arun_kn 1 rfl (fun C hC => ?_) | refine arunD_kn 1 rfl (fun C hC => ?_)); (repeat ((conv => whnf); simp [hlt, hw, hw1, hw2, txt_size])); refine hC _ ?_; clear hC C; simp only [List.drop, Nat.reduceAdd]) | (refine arun_skip ?_ ?_; (focus (simp [awant, hlt, hw, hw1, hw2, txt_size]; done))) | (refine arun_c0 (p2) ?_; rintro _ rfl) | (refine arunD_c (0) (p2) ?_; rintro _ rfl; intro _) | (refine AW.regionK [] (fun K hK => ?_)) | (refine AW.regionDK [] (pcs [(15, 0, fun r => r = .str (txt F))] []) (by kernel_rfl) (by kernel_rfl) (fun K hK => ?_)) | (refine AW.condT ?_ ?_; (focus (simp [aev, hlt, hw, hw1, hw2, txt_size]; done))) | (refine AW.condF ?_ ?_; (focus (simp [aev, hlt, hw, hw1, hw2, txt_size]; done))) | with_reducible refine AW.block ?_ | ((first | ((first | refine arun_nil ?_ | refine arunD_nil ?_); refine hK _ ?_; clear hK K) | refine AW.skip ?_ | refine AW.exit ?_ | refine AW.ret ?_); simp only [thenA_exit, inBlockA_exit, if_true, if_false, Nat.reduceEqDiff, thenA_normal, inBlockA_normal, reduceIte, thenA_ret, inBlockA_ret, endQ_ret, endR_ret, endG_ret, endQ_normal, endR_normal, endG_normal])))
      refine ⟨(i + 1, sumZ (s.1.take (i + 1))), by dsimp only; omega, ⟨by dsimp only; omega, rfl⟩, ?_⟩
      dsimp only
      exact (less_of (by simp [lessL, mkSt, slots, hfin, itemA, itemL_eq, storeA, storeT, storeO, itemsRow]) (by simp [upd, mkSt, rowsOf_cons, hfin, itemA, itemL_eq, storeA, storeT, storeO, itemsRow]) (by simp [upd, mkSt, usedOf_cons, hfin, itemA, itemL_eq, storeA, storeT, storeO, itemsRow]) (by first | exact rd_less (by omega) | simp [mkSt, hfin, itemA, itemL_eq, storeA, storeT, storeO, itemsRow]) (by simp [slots, in_any, in_int, in_bool, in_str, in_ptr, in_own, in_agg, in_vnil, in_rdr, usedOf_cons, usedOf_nil, strs_in, ints_in, nodes_in, items_in, in_tup, hfin, itemA, itemL_eq, storeA, storeT, storeO, itemsRow]) (by simp only [List.forall_mem_cons, List.not_mem_nil, false_implies, implies_true, and_true, true_and, hfin, itemA, itemL_eq, storeA, storeT, storeO, itemsRow]; (repeat (first | with_reducible exact trivial | with_reducible refine And.intro ?_ ?_ | with_reducible exact in_int | with_reducible exact in_str | with_reducible exact in_bool | with_reducible exact strs_in _ | with_reducible exact nodes_in _ | with_reducible exact items_in _ | with_reducible exact in_vnil | with_reducible exact in_any | exact hin _ | with_reducible refine take_in ?_ | with_reducible exact strsE_in _ | with_reducible exact nodesE_in _ | with_reducible exact nodeL_in _ | with_reducible exact itemsE_in _ | with_reducible exact itemL_in _ | with_reducible refine app_in ?_ ?_ | with_reducible refine sing_in ?_ | (focus (simp [in_any, in_int, in_bool, in_str, in_ptr, in_own, in_agg, in_vnil, in_rdr, usedOf_cons, usedOf_nil, strs_in, ints_in, nodes_in, items_in, hfin, itemA, itemL_eq, storeA, storeT, storeO, itemsRow]; done)))); done))
    · have hal : s.1.take i = s.1 := List.take_of_length_le (by omega)
      rw [hal] at hf
      subst hf
      (repeat (first | with_reducible refine AW.seq ?_ | ((first | refine arun_kn 4 rfl (fun C hC => ?_) | refine arunD_kn 4 rfl (fun C hC => ?_)); (repeat ((conv => whnf); simp [hlt])); refine hC _ ?_; clear hC C; simp only [List.drop, Nat.reduceAdd]) | ((first | refine arun_kn 1 rfl (fun C hC => ?_) | refine arunD_kn 1 rfl (fun C hC => ?_)); (repeat ((conv => whnf); simp [hlt])); refine hC _ ?_; clear hC C; simp only [List.drop, Nat.reduceAdd]) | (refine arun_skip ?_ ?_; (focus (simp [awant, hlt]; done))) | (refine AW.regionK [] (fun K hK => ?_)) | (refine AW.regionDK [] (pcs [] []) (by kernel_rfl) (by kernel_rfl) (fun K hK => ?_)) | (refine AW.condT ?_ ?_; (focus (simp [aev, hlt]; done))) | (refine AW.condF ?_ ?_; (focus (simp [aev, hlt]; done))) | with_reducible refine AW.block ?_ | ((first | ((first | refine arun_nil ?_ | refine arunD_nil ?_); refine hK _ ?_; clear hK K) | refine AW.skip ?_ | refine AW.exit ?_ | refine AW.ret ?_); simp only [thenA_exit, inBlockA_exit, if_true, if_false, Nat.reduceEqDiff, thenA_normal, inBlockA_normal, reduceIte, thenA_ret, inBlockA_ret, endQ_ret, endR_ret, endG_ret, endQ_normal, endR_normal, endG_normal])))
      exact ⟨.int .i64 (sumZ s.1 : Nat), by simp [ares, aresL], pur_int, rfl⟩
theorem specStoreSize_AC (s : Sto) (t : VC) : AC Tryd.prog 30 [storeT t s] 0 (fun r => r = .int .i64 (stZ s)) := by
  have p1 := validStore_AC s t
  cases hb : storeB s <;> rw [hb] at p1
  · have e : stZ s = -1 := by unfold stZ; rw [hb]; rfl
    rw [e]
    unfold storeT at *
    refine AC.of tab_ok mixed_ok Tryd.func30 (by rfl) (by kernel_rfl) ?_; rintro ⟨P, T, hT, hm, w0, S0, rd0, k0⟩ hP hTT; dsimp only at hP hTT; subst hP hTT; unfold initSt; rw [Tryd.ntmps30]
    (repeat (first | with_reducible refine AW.seq ?_ | ((first | refine arun_kn 4 rfl (fun C hC => ?_) | refine arunD_kn 4 rfl (fun C hC => ?_)); (repeat ((conv => whnf); simp)); refine hC _ ?_; clear hC C; simp only [List.drop, Nat.reduceAdd]) | ((first | refine arun_kn 1 rfl (fun C hC => ?_) | refine arunD_kn 1 rfl (fun C hC => ?_)); (repeat ((conv => whnf); simp)); refine hC _ ?_; clear hC C; simp only [List.drop, Nat.reduceAdd]) | (refine arun_skip ?_ ?_; (focus (simp [awant]; done))) | (refine arun_c0 (p1) ?_; rintro _ rfl) | (refine AW.regionK [] (fun K hK => ?_)) | (refine AW.regionDK [] (pcs [] []) (by kernel_rfl) (by kernel_rfl) (fun K hK => ?_)) | (refine AW.condT ?_ ?_; (focus (simp [aev]; done))) | (refine AW.condF ?_ ?_; (focus (simp [aev]; done))) | with_reducible refine AW.block ?_ | ((first | ((first | refine arun_nil ?_ | refine arunD_nil ?_); refine hK _ ?_; clear hK K) | refine AW.skip ?_ | refine AW.exit ?_ | refine AW.ret ?_); simp only [thenA_exit, inBlockA_exit, if_true, if_false, Nat.reduceEqDiff, thenA_normal, inBlockA_normal, reduceIte, thenA_ret, inBlockA_ret, endQ_ret, endR_ret, endG_ret, endQ_normal, endR_normal, endG_normal])))
    exact ⟨.int .i64 (-1), by simp [ares, aresL], pur_int, rfl⟩
  · have e : stZ s = (sumZ s.1 : Nat) := by unfold stZ; rw [hb]; rfl
    rw [e]
    have p2 := size_AC s t (storeB_parts hb).1 (fun x hx => item_ok hb hx)
    unfold storeT at *
    refine AC.of tab_ok mixed_ok Tryd.func30 (by rfl) (by kernel_rfl) ?_; rintro ⟨P, T, hT, hm, w0, S0, rd0, k0⟩ hP hTT; dsimp only at hP hTT; subst hP hTT; unfold initSt; rw [Tryd.ntmps30]
    (repeat (first | with_reducible refine AW.seq ?_ | ((first | refine arun_kn 4 rfl (fun C hC => ?_) | refine arunD_kn 4 rfl (fun C hC => ?_)); (repeat ((conv => whnf); simp)); refine hC _ ?_; clear hC C; simp only [List.drop, Nat.reduceAdd]) | ((first | refine arun_kn 1 rfl (fun C hC => ?_) | refine arunD_kn 1 rfl (fun C hC => ?_)); (repeat ((conv => whnf); simp)); refine hC _ ?_; clear hC C; simp only [List.drop, Nat.reduceAdd]) | (refine arun_skip ?_ ?_; (focus (simp [awant]; done))) | (refine arun_c0 (p1) ?_; rintro _ rfl) | (refine arun_c0 (p2) ?_; rintro _ rfl) | (refine AW.regionK [] (fun K hK => ?_)) | (refine AW.regionDK [] (pcs [] []) (by kernel_rfl) (by kernel_rfl) (fun K hK => ?_)) | (refine AW.condT ?_ ?_; (focus (simp [aev]; done))) | (refine AW.condF ?_ ?_; (focus (simp [aev]; done))) | with_reducible refine AW.block ?_ | ((first | ((first | refine arun_nil ?_ | refine arunD_nil ?_); refine hK _ ?_; clear hK K) | refine AW.skip ?_ | refine AW.exit ?_ | refine AW.ret ?_); simp only [thenA_exit, inBlockA_exit, if_true, if_false, Nat.reduceEqDiff, thenA_normal, inBlockA_normal, reduceIte, thenA_ret, inBlockA_ret, endQ_ret, endR_ret, endG_ret, endQ_normal, endR_normal, endG_normal])))
    exact ⟨.int .i64 (sumZ s.1 : Nat), by simp [ares, aresL], pur_int, rfl⟩
end Go.Proofs.YtoedpagdklagdaaDoor.Eng
-- EV: store
namespace Go.Proofs.YtoedpagdklagdaaDoor.Eng
open Go Go.RowKit
theorem items_to_rep {w : World} {S : Nat → Prop} {a : Option Addr} {c : Nat} {l : List Itm} (h : SlR itmRep w S a c l) : Rep w (pureC nil S none) (.view .loose 7 (l.map itemL)) (.slice a l.length c) := by
  obtain ⟨h1, h2, h3⟩ := h
  refine rep_view.2 ⟨a, c, by rw [List.length_map], fun h => (by cases h), by rw [List.length_map]; exact h1, by rw [List.length_map]; exact h2, fun e he => ?_, ?_⟩
  · obtain ⟨x, _, rfl⟩ := List.mem_map.1 he
    exact itemL_len x
  · rcases h3 with rfl | ⟨b, o, ha, hb, hk⟩
    · exact .inl rfl
    · refine .inr ⟨b, o, ha, hb, RepE.of_get (sz := 7) (fun e he => ?_) (fun i e he => ?_)⟩
      · obtain ⟨x, _, rfl⟩ := List.mem_map.1 he
        exact itemL_len x
      · rw [List.getElem?_map, Option.map_eq_some_iff] at he
        obtain ⟨x, hx, rfl⟩ := he
        obtain ⟨hi, rfl⟩ := List.getElem?_eq_some_iff.1 hx
        obtain ⟨cs, hcs, hr⟩ := hk i hi
        obtain ⟨na, nc, ka, kc, rfl, hsz, hc⟩ := itmRep_open hr
        rw [itmRep_n] at hcs
        obtain ⟨r2, r3, r4⟩ := nodeC_to_rep _ _ _ _ _ hc
        have p0 : w.cell? ⟨b, o + i * 7, none⟩ = _ := hcs 0 _ rfl
        have p1 := hcs 1 _ rfl
        have p2 := hcs 2 _ rfl
        have p3 := hcs 3 _ rfl
        have p4 := hcs 4 _ rfl
        have p5 := hcs 5 _ rfl
        have p6 := hcs 6 _ rfl
        rw [itemL_eq]
        unfold RepC
        refine ⟨⟨_, p0, rfl, rep_str.2 ⟨rfl, hsz⟩⟩, ?_⟩
        unfold RepC
        refine ⟨⟨_, p1, rfl, rep_int.2 rfl⟩, ?_⟩
        unfold RepC
        refine ⟨⟨_, p2, rfl, rep_int.2 rfl⟩, ?_⟩
        unfold RepC
        refine ⟨⟨_, p3, rfl, rep_int.2 rfl⟩, ?_⟩
        unfold RepC
        refine ⟨⟨_, p4, rfl, r2⟩, ?_⟩
        unfold RepC
        refine ⟨⟨_, p5, rfl, r3⟩, ?_⟩
        unfold RepC
        refine ⟨⟨_, p6, rfl, r4⟩, ?_⟩
        unfold RepC
        trivial
theorem rep_of_store {w : World} {S : Nat → Prop} {s : Sto} {v : Value} (h : RV stoRep packA w S s v) : Rep w (pureC nil S none) (storeT .loose s) v := by
  obtain ⟨a, c, rfl, hs⟩ := sto_open h
  unfold storeT stoV
  refine rep_agg.2 ⟨[_, _], rfl, ?_, repL2 (items_to_rep hs) (rep_int.2 rfl)⟩
  intro u hu
  simp only [List.mem_cons, List.not_mem_nil, or_false] at hu
  rcases hu with rfl | rfl <;> rfl
end Go.Proofs.YtoedpagdklagdaaDoor.Eng
namespace Go.Proofs.YtoedpagdklagdaaDoor
open Go.RowKit
theorem specStoreSize_ok (s : Sto) (v : Value) (W : World) (hv : RV stoRep packA W any s v) :
    Calls Tryd.prog 30 #[v] W fun e W' => e = .returned (.int .i64 (stZ s)) ∧ Grow W W' := by
  refine ((Eng.specStoreSize_AC s .loose).zero.2 W nil (fun b => b < W.heap.size) [v] (fun b hb => hb.elim) (fun b hb => hb) ?_).mono ?_
  · unfold Eng.RepL
    exact ⟨_, _, rfl, Eng.rep_of_store hv.under, by unfold Eng.RepL; rfl⟩
  · rintro e W' ⟨u, r, S', rfl, hg, _, _, hr, rfl⟩
    rw [Eng.rep_int] at hr
    exact ⟨by rw [hr], hg⟩
end Go.Proofs.YtoedpagdklagdaaDoor
namespace Go.Proofs.YtoedpagdklagdaaDoor
open Go.RowKit
end Go.Proofs.YtoedpagdklagdaaDoor
namespace Go.Proofs.YtoedpagdklagdaaDoor
open Go.RowKit
theorem openV_sto {w : World} {S : Nat → Prop} {s : Sto} {v : Value} (h : RV stoRep packA w S s v) : ∃ a c, v = stoV s a c := by
  obtain ⟨a, c, h, _⟩ := sto_open h; exact ⟨a, c, h⟩
theorem uSzSto (s : Sto) (v : Value) (left : Int) (w : World) (h0 : 0 ≤ left) (h1 : left ≤ 1048576) (h : RV stoRep packA w any s v) :
    Calls Tryd.prog 29 #[v, .int .i64 left] w fun e w' => e = .returned (.int .i64 (szR (costSto s) left)) ∧ Grow w w' := by
  obtain ⟨a, c, rfl, hs⟩ := sto_open h
  have Hs := Lib.hid hs
  clear h hs
  unfold stoV
  by_cases hb : (costSto s : Int) ≤ left
  · have Hz := Lib.hid (szR_pos hb)
    have Hz' : Hid (szR (costItmL s.1) left = left - costSto s) := Lib.hid (szR_pos hb)
    go_enter Tryd.func29, Tryd.ntmps29
    go_wp2_with fail
    refine (szItemS_ok s.1 _ _ left _ (Hs.out.grow (by repeat (first | with_reducible exact Ext.refl _ _ | with_reducible refine Ext.trans ?_ (by assumption) | with_reducible refine Ext.drew ?_ | with_reducible refine Ext.drewN ?_ _ | with_reducible refine Ext.alloc ?_ _ | with_reducible refine Ext.setNew ?_ (by simp; done) _ | with_reducible refine Ext.setNew ?_ (by simp; omega) _))) h0 h1).mono ?_
    rintro e w2 ⟨rfl, hg2⟩
    simp only [Hz'.out]
    go_wp2_with fail
    go_ret
    exact ⟨by simp [Hz.out], (by repeat (first | with_reducible exact Ext.refl _ _ | with_reducible refine Ext.trans ?_ (by assumption) | with_reducible refine Ext.drew ?_ | with_reducible refine Ext.drewN ?_ _ | with_reducible refine Ext.alloc ?_ _ | with_reducible refine Ext.setNew ?_ (by simp; done) _ | with_reducible refine Ext.setNew ?_ (by simp; omega) _))⟩
  · have Hz := Lib.hid (szR_neg (c := costSto s) (left := left) (by omega))
    have Hz' : Hid (szR (costItmL s.1) left = -1) := Lib.hid (szR_neg (by unfold costSto at hb; omega))
    clear hb
    go_enter Tryd.func29, Tryd.ntmps29
    go_wp2_with fail
    refine (szItemS_ok s.1 _ _ left _ (Hs.out.grow (by repeat (first | with_reducible exact Ext.refl _ _ | with_reducible refine Ext.trans ?_ (by assumption) | with_reducible refine Ext.drew ?_ | with_reducible refine Ext.drewN ?_ _ | with_reducible refine Ext.alloc ?_ _ | with_reducible refine Ext.setNew ?_ (by simp; done) _ | with_reducible refine Ext.setNew ?_ (by simp; omega) _))) h0 h1).mono ?_
    rintro e w2 ⟨rfl, hg2⟩
    simp only [Hz'.out]
    go_wp2_with fail
    go_ret
    exact ⟨by simp [Hz.out], (by repeat (first | with_reducible exact Ext.refl _ _ | with_reducible refine Ext.trans ?_ (by assumption) | with_reducible refine Ext.drew ?_ | with_reducible refine Ext.drewN ?_ _ | with_reducible refine Ext.alloc ?_ _ | with_reducible refine Ext.setNew ?_ (by simp; done) _ | with_reducible refine Ext.setNew ?_ (by simp; omega) _))⟩
theorem uToSto (s : Sto) (v : Value) (w : World) (hc : costSto s ≤ 1048576) (h : RV stoRep packA w any s v) :
    Calls Tryd.prog 31 #[v] w fun e w' => ∃ v' fp, e = .returned v' ∧ Grow w w' ∧ FV stoRep packA w' s v' fp ∧ Free w.heap.size w' fp := by
  obtain ⟨a, c, rfl, hs⟩ := sto_open h
  have Hs := Lib.hid hs
  clear h hs
  unfold stoV
  have HB0 := Lib.hid (((BoxN.new w [.slice a s.1.length c, .int .i64 s.2] 42).grow ((Ext.refl nil _).alloc (.cells #[.slice none 0 0, .int .i64 0] 47))).grow ((Ext.refl nil _).alloc (.cells #[.slice none 0 0, .int .i64 0] 47)))
  have HB1 := Lib.hid ((BoxN.new1 w (.cells #[.slice a s.1.length c, .int .i64 s.2] 42) [.slice none 0 0, .int .i64 0] 47).grow ((Ext.refl nil _).alloc (.cells #[.slice none 0 0, .int .i64 0] 47)))
  have HB2 := Lib.hid (BoxN.new2 w (.cells #[.slice a s.1.length c, .int .i64 s.2] 42) (.cells #[.slice none 0 0, .int .i64 0] 47) [.slice none 0 0, .int .i64 0] 47)
  go_enter Tryd.func31, Tryd.ntmps31
  go_wp2_with fail
  refine (toItemS_ok s.1 _ _ _ hc (Hs.out.grow (by repeat (first | with_reducible exact Ext.refl _ _ | with_reducible refine Ext.trans ?_ (by assumption) | with_reducible refine Ext.drew ?_ | with_reducible refine Ext.drewN ?_ _ | with_reducible refine Ext.alloc ?_ _ | with_reducible refine Ext.setNew ?_ (by simp; done) _ | with_reducible refine Ext.setNew ?_ (by simp; omega) _)))).mono ?_
  rintro e w2 ⟨a', c', fp, rfl, hg2, hF, hfr⟩
  have hgp : Grow w w2 := (by repeat (first | with_reducible exact Ext.refl _ _ | with_reducible refine Ext.trans ?_ (by assumption) | with_reducible refine Ext.drew ?_ | with_reducible refine Ext.drewN ?_ _ | with_reducible refine Ext.alloc ?_ _ | with_reducible refine Ext.setNew ?_ (by simp; done) _ | with_reducible refine Ext.setNew ?_ (by simp; omega) _))
  simp only [World.size_alloc] at hfr
  have HF := Lib.hid hF
  have Hfr := Lib.hid hfr
  replace HB0 := Lib.hid (HB0.out.grow hg2)
  replace HB1 := Lib.hid (HB1.out.grow hg2)
  replace HB2 := Lib.hid (HB2.out.grow hg2)
  clear hF hfr hg2
  have p0 := HB0.out.cell 0 _ rfl
  have p1 := HB0.out.cell 1 _ rfl
  have q0 := HB2.out.cell 0 _ rfl
  have q1 := HB2.out.cell 1 _ rfl
  have qf := HB2.out.fr
  have r0 := HB1.out.cell 0 _ rfl
  have r1 := HB1.out.cell 1 _ rfl
  have rf := HB1.out.fr
  have z1 := HB2.out.lt
  go_wp2_with fail
  have BF := (((HB1.out.other (p := ⟨w.heap.size + 1 + 1, 0, none⟩) (by simp) (.slice a' s.1.length c')).other (p := ⟨w.heap.size + 1 + 1, 1, none⟩) (by simp) (.int .i64 s.2)).set 0 (by simp) (.slice a' s.1.length c')).set 1 (by simp) (.int .i64 s.2)
  have s0 := BF.cell 0 _ rfl
  have s1 := BF.cell 1 _ rfl
  have x2 : ∀ b ∈ fp, ¬ (b = w.heap.size + 1 ∨ b = w.heap.size + 1 + 1) := fun b hb => by have := (Hfr.out.2 b hb).1; omega
  have ex : ∀ (w3 : World) (p : Addr) (v : Value), (p.block = w.heap.size + 1 ∨ p.block = w.heap.size + 1 + 1) → Ext (fun k => k = w.heap.size + 1 ∨ k = w.heap.size + 1 + 1) w3 (w3.setCell p v) := fun w3 p v hp => (Ext.refl _ w3).setIn hp v
  have hall := ((ex w2 ⟨w.heap.size + 1 + 1, 0, none⟩ (.slice a' s.1.length c') (.inr rfl)).trans (ex _ ⟨w.heap.size + 1 + 1, 1, none⟩ (.int .i64 s.2) (.inr rfl))).trans ((ex _ ⟨w.heap.size + 1, 0, none⟩ (.slice a' s.1.length c') (.inl rfl)).trans (ex _ ⟨w.heap.size + 1, 1, none⟩ (.int .i64 s.2) (.inl rfl)))
  refine bodyPost_ret (v := stoV s a' c') ?_ rfl ⟨_, fp, rfl, hgp.inner hall (by intro i hi; omega), sto_shutF (HF.out.keep (hall.keeps Hfr.out x2)), (Hfr.out.ext hall x2).mono (by omega)⟩
  unfold stoV
  simp [results, Tryd.results31, go_sem, s0, s1]
theorem uEqSto (s : Sto) (v u : Value) (w : World) (h : RV stoRep packA w any s v) (h' : RV stoRep packA w any s u) :
    Calls Tryd.prog 33 #[v, u] w fun e w' => e = .returned (.bool true) ∧ Grow w w' := by
  obtain ⟨a, c, rfl, hs⟩ := sto_open h
  obtain ⟨a', c', rfl, hs'⟩ := sto_open h'
  have Hs := Lib.hid hs
  have Hs' := Lib.hid hs'
  clear h hs h' hs'
  unfold stoV
  go_enter Tryd.func33, Tryd.ntmps33
  go_wp2_with fail
  refine (eqItemS_same s.1 _ _ _ _ _ (Hs.out.grow (by repeat (first | with_reducible exact Ext.refl _ _ | with_reducible refine Ext.trans ?_ (by assumption) | with_reducible refine Ext.drew ?_ | with_reducible refine Ext.drewN ?_ _ | with_reducible refine Ext.alloc ?_ _ | with_reducible refine Ext.setNew ?_ (by simp; done) _ | with_reducible refine Ext.setNew ?_ (by simp; omega) _))) (Hs'.out.grow (by repeat (first | with_reducible exact Ext.refl _ _ | with_reducible refine Ext.trans ?_ (by assumption) | with_reducible refine Ext.drew ?_ | with_reducible refine Ext.drewN ?_ _ | with_reducible refine Ext.alloc ?_ _ | with_reducible refine Ext.setNew ?_ (by simp; done) _ | with_reducible refine Ext.setNew ?_ (by simp; omega) _)))).mono ?_
  rintro e w2 ⟨rfl, hg2⟩
  have hcc := bcell hg2
  go_wp2_with fail
  go_ret
  exact ⟨by simp, (by repeat (first | with_reducible exact Ext.refl _ _ | with_reducible refine Ext.trans ?_ (by assumption) | with_reducible refine Ext.drew ?_ | with_reducible refine Ext.drewN ?_ _ | with_reducible refine Ext.alloc ?_ _ | with_reducible refine Ext.setNew ?_ (by simp; done) _ | with_reducible refine Ext.setNew ?_ (by simp; omega) _))⟩
end Go.Proofs.YtoedpagdklagdaaDoor
namespace Go.Proofs.YtoedpagdklagdaaDoor
open Go.RowKit
theorem lawSSz_big (s : Sto) (v0 : Value) (w : World) (h0 : RV stoRep packA w any s v0) (hbig : ¬ costSto s ≤ 1048576) :
    Calls Tryd.prog 10 #[v0] w fun e w' => e = .returned (.bool true) ∧ Grow w w' := by
  have HV0 := Lib.hid h0
  obtain ⟨a0, c0, rfl⟩ := openV_sto h0
  clear h0
  unfold stoV at *
  by_cases c0 : (costSto s : Int) ≤ 1048576
  rotate_left
  ·
    have Hs0 := Lib.hid (szR_neg (c := costSto s) (left := 1048576) (by omega))
    clear c0 hbig
    have HB0 := Lib.hid (BoxN.new w [.slice a0 s.1.length c0, .int .i64 s.2] 42)
    go_enter Tryd.func10, Tryd.ntmps10
    go_wp2_with fail
    refine (uSzSto s _ _ _ (by omega) (by omega) (HV0.out.grow (by repeat (first | with_reducible exact Ext.refl _ _ | with_reducible refine Ext.trans ?_ (by assumption) | with_reducible refine Ext.drew ?_ | with_reducible refine Ext.drewN ?_ _ | with_reducible refine Ext.alloc ?_ _ | with_reducible refine Ext.setNew ?_ (by simp; done) _ | with_reducible refine Ext.setNew ?_ (by simp; omega) _)))).mono ?_
    rintro e w1 ⟨rfl, hg1⟩
    simp only [Hs0.out]
    have z1 := hg1.size
    try simp only [World.size_alloc] at z1
    go_wp2_with fail
    go_ret
    exact ⟨by simp, (by repeat (first | with_reducible exact Ext.refl _ _ | with_reducible refine Ext.trans ?_ (by assumption) | with_reducible refine Ext.drew ?_ | with_reducible refine Ext.drewN ?_ _ | with_reducible refine Ext.alloc ?_ _ | with_reducible refine Ext.setNew ?_ (by simp; done) _ | with_reducible refine Ext.setNew ?_ (by simp; omega) _))⟩
  have Hs0 := Lib.hid (szR_pos (c := costSto s) (left := 1048576) (by omega))
  omega
theorem lawSSz_main (s : Sto) (v0 : Value) (w : World) (h0 : RV stoRep packA w any s v0) (ht : TW w) (hcost : costSto s ≤ 1048576) :
    Calls Tryd.prog 10 #[v0] w fun e w' => e = .returned (.bool true) ∧ Grow w w' := by
  have HV0 := Lib.hid h0
  obtain ⟨a0, c0, rfl⟩ := openV_sto h0
  clear h0
  unfold stoV at *
  have Hs0 := Lib.hid (szR_pos (c := costSto s) (left := 1048576) (by omega))
  have C0 : Hid (costSto s ≤ 1048576) := Lib.hid (by omega)
  have HB0 := Lib.hid (BoxN.new w [.slice a0 s.1.length c0, .int .i64 s.2] 42)
  go_enter Tryd.func10, Tryd.ntmps10
  go_wp2_with fail
  refine (uSzSto s _ _ _ (by omega) (by omega) (HV0.out.grow (by repeat (first | with_reducible exact Ext.refl _ _ | with_reducible refine Ext.trans ?_ (by assumption) | with_reducible refine Ext.drew ?_ | with_reducible refine Ext.drewN ?_ _ | with_reducible refine Ext.alloc ?_ _ | with_reducible refine Ext.setNew ?_ (by simp; done) _ | with_reducible refine Ext.setNew ?_ (by simp; omega) _)))).mono ?_
  rintro e w1 ⟨rfl, hg1⟩
  simp only [Hs0.out]
  have z1 := hg1.size
  try simp only [World.size_alloc] at z1
  have pB := HB0.out.grow (w' := w1) (by repeat (first | with_reducible exact Ext.refl _ _ | with_reducible refine Ext.trans ?_ (by assumption) | with_reducible refine Ext.drew ?_ | with_reducible refine Ext.drewN ?_ _ | with_reducible refine Ext.alloc ?_ _ | with_reducible refine Ext.setNew ?_ (by simp; done) _ | with_reducible refine Ext.setNew ?_ (by simp; omega) _))
  have p0 := pB.cell 0 _ rfl; have p1 := pB.cell 1 _ rfl
  go_wp2_with fail
  refine (uToSto s _ _ C0.out (HV0.out.grow (by repeat (first | with_reducible exact Ext.refl _ _ | with_reducible refine Ext.trans ?_ (by assumption) | with_reducible refine Ext.drew ?_ | with_reducible refine Ext.drewN ?_ _ | with_reducible refine Ext.alloc ?_ _ | with_reducible refine Ext.setNew ?_ (by simp; done) _ | with_reducible refine Ext.setNew ?_ (by simp; omega) _)))).mono ?_
  rintro e w2 ⟨us, fs, rfl, hg2, hF, hfr⟩
  have z2 := hg2.size
  try simp only [World.size_alloc] at z2
  have RUs := Lib.hid hF.rv
  clear hF hfr p0 p1 pB
  go_wp2_with fail
  refine (specStoreSize_ok s _ _ RUs.out).mono ?_
  rintro e w3 ⟨rfl, hg3⟩
  have z3 := hg3.size
  try simp only [World.size_alloc] at z3
  have hpB := HB0.out.grow (w' := w3) (by repeat (first | with_reducible exact Ext.refl _ _ | with_reducible refine Ext.trans ?_ (by assumption) | with_reducible refine Ext.drew ?_ | with_reducible refine Ext.drewN ?_ _ | with_reducible refine Ext.alloc ?_ _ | with_reducible refine Ext.setNew ?_ (by simp; done) _ | with_reducible refine Ext.setNew ?_ (by simp; omega) _))
  have p0 := hpB.cell 0 _ rfl; have p1 := hpB.cell 1 _ rfl; have pz := hpB.lt
  go_wp2_with fail
  refine (uToSto s _ _ C0.out (HV0.out.grow (by repeat (first | with_reducible exact Ext.refl _ _ | with_reducible refine Ext.trans ?_ (by assumption) | with_reducible refine Ext.drew ?_ | with_reducible refine Ext.drewN ?_ _ | with_reducible refine Ext.alloc ?_ _ | with_reducible refine Ext.setNew ?_ (by simp; done) _ | with_reducible refine Ext.setNew ?_ (by simp; omega) _)))).mono ?_
  rintro e w4 ⟨y0, f0, rfl, hg4, hF, hfr⟩
  have z4 := hg4.size
  try simp only [World.size_alloc] at z4
  try simp only [World.size_alloc] at hfr
  have F0 := Lib.hid hF
  have S0 := Lib.hid (Seg.of hfr)
  obtain ⟨ax0, cx0, rfl⟩ := openV_sto hF.rv
  unfold stoV at *
  clear hF hfr p0 p1 hpB pz
  have HBx0 := Lib.hid (BoxN.new w4 [.slice ax0 s.1.length cx0, .int .i64 s.2] 47)
  go_wp2_with fail
  refine (implStoreSize_ok s _ _ (ht.grow (by repeat (first | with_reducible exact Ext.refl _ _ | with_reducible refine Ext.trans ?_ (by assumption) | with_reducible refine Ext.drew ?_ | with_reducible refine Ext.drewN ?_ _ | with_reducible refine Ext.alloc ?_ _ | with_reducible refine Ext.setNew ?_ (by simp; done) _ | with_reducible refine Ext.setNew ?_ (by simp; omega) _))) (F0.out.rv.grow (by repeat (first | with_reducible exact Ext.refl _ _ | with_reducible refine Ext.trans ?_ (by assumption) | with_reducible refine Ext.drew ?_ | with_reducible refine Ext.drewN ?_ _ | with_reducible refine Ext.alloc ?_ _ | with_reducible refine Ext.setNew ?_ (by simp; done) _ | with_reducible refine Ext.setNew ?_ (by simp; omega) _)))).mono ?_
  rintro e w5 ⟨rfl, hg5⟩
  have z5 := hg5.size
  try simp only [World.size_alloc] at z5
  go_wp2_with fail
  have pB := HBx0.out.grow (w' := w5) (by repeat (first | with_reducible exact Ext.refl _ _ | with_reducible refine Ext.trans ?_ (by assumption) | with_reducible refine Ext.drew ?_ | with_reducible refine Ext.drewN ?_ _ | with_reducible refine Ext.alloc ?_ _ | with_reducible refine Ext.setNew ?_ (by simp; done) _ | with_reducible refine Ext.setNew ?_ (by simp; omega) _))
  have p0 := pB.cell 0 _ rfl; have p1 := pB.cell 1 _ rfl
  have qB := HB0.out.grow (w' := w5) (by repeat (first | with_reducible exact Ext.refl _ _ | with_reducible refine Ext.trans ?_ (by assumption) | with_reducible refine Ext.drew ?_ | with_reducible refine Ext.drewN ?_ _ | with_reducible refine Ext.alloc ?_ _ | with_reducible refine Ext.setNew ?_ (by simp; done) _ | with_reducible refine Ext.setNew ?_ (by simp; omega) _))
  have q0 := qB.cell 0 _ rfl; have q1 := qB.cell 1 _ rfl
  refine wp_region_stab Grow (fun i => if i = 2 then some (fun v w' => RV stoRep packA w' any s v) else if i = 3 then some (fun v _ => v = .bool true) else none) (by kernel_rfl) (by kernel_rfl) ⟨Ext.refl nil, fun _ _ h1 h2 => h2.trans h1, ?_⟩ ?_
  · intro i V hV v w1 w2 hr hv
    by_cases h1 : i = 2
    · simp only [h1, if_true, Option.some.injEq] at hV; subst hV; exact RV.grow hv hr
    · by_cases h3 : i = 3
      · simp [h3] at hV; subst hV; exact hv
      · simp [h1, h3] at hV
  (refine wpStab_quiet (by kernel_rfl) (by kernel_rfl) (by simp) ?_; intro K hK; go_big_quiet_op; go_big_quiet_on)
  (refine wpStab_quiet (by kernel_rfl) (by kernel_rfl) (by simp) ?_; intro K hK; go_big_quiet_op; go_big_quiet_on)
  refine wpStab_made (fun v w' => RV stoRep packA w' any s v) ?_ ?_ ?_ ?_
  · go_simp
  · simp
  · intro y _
    refine stabAt_call (f := 31) (args := #[.agg #[.slice a0 s.1.length c0, .int .i64 s.2]]) ?_ ?_
    · go_simp
    · refine (uToSto s _ _ C0.out (HV0.out.grow (((by repeat (first | with_reducible exact Ext.refl _ _ | with_reducible refine Ext.trans ?_ (by assumption) | with_reducible refine Ext.drew ?_ | with_reducible refine Ext.drewN ?_ _ | with_reducible refine Ext.alloc ?_ _ | with_reducible refine Ext.setNew ?_ (by simp; done) _ | with_reducible refine Ext.setNew ?_ (by simp; omega) _)) : Grow w w5).trans (later_grow _ _)))).mono ?_
      rintro e w' ⟨v', fp, rfl, hg, hF, _⟩
      exact ⟨_, rfl, hg, hF.rv⟩
  intro vt
  go_frame
  refine wpStab_const (.bool true) ?_ ?_ ?_ ?_
  · go_simp
  · simp
  · intro y hE
    have Hr6 : RV stoRep packA (later w5 y) any s vt := (hE ⟨2, .data⟩ (by simp) (by decide)).2 rfl
    clear hE
    refine stabAt_call (f := 33) (args := #[.agg #[.slice ax0 s.1.length cx0, .int .i64 s.2], vt]) ?_ ?_
    · go_simp
    · refine (uEqSto s _ _ _ (F0.out.rv.grow (((by repeat (first | with_reducible exact Ext.refl _ _ | with_reducible refine Ext.trans ?_ (by assumption) | with_reducible refine Ext.drew ?_ | with_reducible refine Ext.drewN ?_ _ | with_reducible refine Ext.alloc ?_ _ | with_reducible refine Ext.setNew ?_ (by simp; done) _ | with_reducible refine Ext.setNew ?_ (by simp; omega) _)) : Grow _ w5).trans (later_grow _ _))) Hr6).mono ?_
      rintro e w' ⟨rfl, hg⟩
      exact ⟨_, rfl, hg, rfl⟩
  go_frame
  (refine wpStab_quiet (by kernel_rfl) (by kernel_rfl) (by simp) ?_; intro K hK; go_big_quiet_op; go_big_quiet_on)
  refine wpStab_end ?_
  intro w6 hg6
  clear p0 p1 pB q0 q1 qB
  have z6 := hg6.size
  go_wp2_with fail
  go_ret
  exact ⟨by simp, (by repeat (first | with_reducible exact Ext.refl _ _ | with_reducible refine Ext.trans ?_ (by assumption) | with_reducible refine Ext.drew ?_ | with_reducible refine Ext.drewN ?_ _ | with_reducible refine Ext.alloc ?_ _ | with_reducible refine Ext.setNew ?_ (by simp; done) _ | with_reducible refine Ext.setNew ?_ (by simp; omega) _))⟩
theorem lawSSz_ok (s : Sto) (v0 : Value) (w : World) (h0 : RV stoRep packA w any s v0) (ht : TW w) :
    Calls Tryd.prog 10 #[v0] w fun e w' => e = .returned (.bool true) ∧ Grow w w' := by
  by_cases hc : costSto s ≤ 1048576
  · exact lawSSz_main s v0 w h0 ht hc
  · exact lawSSz_big s v0 w h0 hc
end Go.Proofs.YtoedpagdklagdaaDoor
namespace Go.Proofs.YtoedpagdklagdaaDoor
open Go Go.RowKit
theorem tw_of {W : World} (h : laidMetH Tryd.prog [("math/bits.deBruijn32tab", Rows.laid_math_bits_deBruijn32tab), ("math/bits.deBruijn64tab", Rows.laid_math_bits_deBruijn64tab), ("internal/strconv.uint64pow10", Rows.laid_internal_strconv_uint64pow10)] W) : TW W := by
  have h1 := h.filter (fun x => x.1 == "internal/strconv.uint64pow10")
  rw [Go.MakeChecks.laidMetH_plain _ _ _ (by kernel_rfl)] at h1
  have e : ([("math/bits.deBruijn32tab", Rows.laid_math_bits_deBruijn32tab), ("math/bits.deBruijn64tab", Rows.laid_math_bits_deBruijn64tab), ("internal/strconv.uint64pow10", Rows.laid_internal_strconv_uint64pow10)] : List (String × DataW Unit)).filter (fun x => x.1 == "internal/strconv.uint64pow10") = [("internal/strconv.uint64pow10", Lib.tabData .u64 Lib.pow10Tab)] := by kernel_rfl
  rw [e] at h1
  have hT : ∀ g, Tryd.prog.globalNamed "internal/strconv.uint64pow10" = some g → ((Tryd.prog.globals[g]?).map (·.type) = some 119) → g < W.heap.size → TW W := fun g h2 h3 h4 =>
    ⟨g, h2, h4, Lib.tabIs_of_head h2 h3 Tryd.underlying119 Tryd.underlying109 (by kernel_rfl) (by kernel_rfl) h1⟩
  have hlt : ∀ g, Tryd.prog.globalNamed "internal/strconv.uint64pow10" = some g → ((Tryd.prog.globals[g]?).map (·.type) = some 119) → g < W.heap.size := fun g h2 h3 => by
    have := Lib.tabIs_of_head h2 h3 Tryd.underlying119 Tryd.underlying109 (by kernel_rfl) (by kernel_rfl) h1
    unfold Lib.TabIs World.var? at this
    rw [h2] at this
    simp only [Option.bind_some] at this
    split at this
    · rename_i hh; exact (Array.getElem?_eq_some_iff.1 hh).1
    · cases this
  first
    | exact hT 0 (by kernel_rfl) (by kernel_rfl) (hlt 0 (by kernel_rfl) (by kernel_rfl))
    | exact hT 1 (by kernel_rfl) (by kernel_rfl) (hlt 1 (by kernel_rfl) (by kernel_rfl))
    | exact hT 2 (by kernel_rfl) (by kernel_rfl) (hlt 2 (by kernel_rfl) (by kernel_rfl))
end Go.Proofs.YtoedpagdklagdaaDoor
namespace Go.Proofs.YtoedpagdklagdaaDoor
open Go.RowKit
end Go.Proofs.YtoedpagdklagdaaDoor
namespace Go.Proofs.YtoedpagdklagdaaDoor
open Go.RowKit
structure Opn where
  kind : Int
  path : List ByteArray
  frm : List ByteArray
  val : Nd
def opV (o : Opn) (pa : Option Addr) (pc : Nat) (fa : Option Addr) (fc : Nat) (na : Option Addr) (nc : Nat) (ka : Option Addr) (kc : Nat) : Value :=
  .agg #[.int .i64 o.kind, .slice pa o.path.length pc, .slice fa o.frm.length fc, .int .i64 o.val.kind, .int .i64 o.val.num, .string o.val.text, .slice na o.val.names.length nc, .slice ka o.val.kids.length kc]
def OpC (w : World) (S : Nat → Prop) (o : Opn) (pa : Option Addr) (pc : Nat) (fa : Option Addr) (fc : Nat) (na : Option Addr) (nc : Nat) (ka : Option Addr) (kc : Nat) : Prop :=
  StrsR w S pa pc o.path ∧ StrsR w S fa fc o.frm ∧ NodeC w S o.val na nc ka kc
def OpR (w : World) (S : Nat → Prop) (o : Opn) (v : Value) : Prop := ∃ pa pc fa fc na nc ka kc, v = opV o pa pc fa fc na nc ka kc ∧ OpC w S o pa pc fa fc na nc ka kc
def OpsR (w : World) (S : Nat → Prop) (a : Option Addr) (c : Nat) (l : List Opn) : Prop :=
  l.length ≤ c ∧ l.length ≤ big ∧ (l = [] ∨ ∃ b o, a = some ⟨b, o, none⟩ ∧ S b ∧ ∀ i (h : i < l.length), ∃ pa pc fa fc na nc ka kc,
    w.cell? ⟨b, o + i * 8, none⟩ = some (.int .i64 l[i].kind) ∧ w.cell? ⟨b, o + i * 8 + 1, none⟩ = some (.slice pa l[i].path.length pc) ∧ w.cell? ⟨b, o + i * 8 + 2, none⟩ = some (.slice fa l[i].frm.length fc) ∧
    w.cell? ⟨b, o + i * 8 + 3, none⟩ = some (.int .i64 l[i].val.kind) ∧ w.cell? ⟨b, o + i * 8 + 4, none⟩ = some (.int .i64 l[i].val.num) ∧ w.cell? ⟨b, o + i * 8 + 5, none⟩ = some (.string l[i].val.text) ∧
    w.cell? ⟨b, o + i * 8 + 6, none⟩ = some (.slice na l[i].val.names.length nc) ∧ w.cell? ⟨b, o + i * 8 + 7, none⟩ = some (.slice ka l[i].val.kids.length kc) ∧ OpC w S l[i] pa pc fa fc na nc ka kc)
theorem OpC.ext {X S : Nat → Prop} {w w' : World} (h : Ext X w w') (hS : ∀ k, S k → ¬ X k) {o : Opn} {pa : Option Addr} {pc : Nat} {fa : Option Addr} {fc : Nat} {na : Option Addr} {nc : Nat} {ka : Option Addr} {kc : Nat}
    (hs : OpC w S o pa pc fa fc na nc ka kc) : OpC w' S o pa pc fa fc na nc ka kc := ⟨hs.1.ext h hS, hs.2.1.ext h hS, hs.2.2.ext h hS⟩
theorem OpC.grow {S : Nat → Prop} {w w' : World} {o : Opn} {pa : Option Addr} {pc : Nat} {fa : Option Addr} {fc : Nat} {na : Option Addr} {nc : Nat} {ka : Option Addr} {kc : Nat}
    (hs : OpC w S o pa pc fa fc na nc ka kc) (h : Grow w w') : OpC w' S o pa pc fa fc na nc ka kc := hs.ext h (fun _ _ h => h)
theorem OpR.ext {X S : Nat → Prop} {w w' : World} (h : Ext X w w') (hS : ∀ k, S k → ¬ X k) {o : Opn} {v : Value} (hs : OpR w S o v) : OpR w' S o v := by
  obtain ⟨pa, pc, fa, fc, na, nc, ka, kc, hv, hc⟩ := hs
  exact ⟨pa, pc, fa, fc, na, nc, ka, kc, hv, hc.ext h hS⟩
theorem OpR.grow {S : Nat → Prop} {w w' : World} {o : Opn} {v : Value} (hs : OpR w S o v) (h : Grow w w') : OpR w' S o v := hs.ext h (fun _ _ h => h)
theorem OpsR.ext {X S : Nat → Prop} {w w' : World} (h : Ext X w w') (hS : ∀ k, S k → ¬ X k) {a : Option Addr} {c : Nat} {l : List Opn} (hs : OpsR w S a c l) : OpsR w' S a c l := by
  obtain ⟨h1, h2, h4⟩ := hs
  refine ⟨h1, h2, h4.imp id ?_⟩
  rintro ⟨b, o, rfl, hb, hc⟩
  refine ⟨b, o, rfl, hb, fun i hi => ?_⟩
  obtain ⟨pa, pc, fa, fc, na, nc, ka, kc, g0, g1, g2, g3, g4, g5, g6, g7, g⟩ := hc i hi
  exact ⟨pa, pc, fa, fc, na, nc, ka, kc, h.some g0 (hS b hb), h.some g1 (hS b hb), h.some g2 (hS b hb), h.some g3 (hS b hb), h.some g4 (hS b hb), h.some g5 (hS b hb), h.some g6 (hS b hb), h.some g7 (hS b hb), g.ext h hS⟩
theorem OpsR.grow {S : Nat → Prop} {w w' : World} {a : Option Addr} {c : Nat} {l : List Opn} (hs : OpsR w S a c l) (h : Grow w w') : OpsR w' S a c l := hs.ext h (fun _ _ h => h)
end Go.Proofs.YtoedpagdklagdaaDoor
namespace Go.Proofs.YtoedpagdklagdaaDoor
open Go.RowKit
structure Reqn where
  method : Int
  name : ByteArray
  want : List ByteArray
  avoid : List ByteArray
  body : Nd
  ops : List Opn
def reqCells (q : Reqn) (wa : Option Addr) (wc : Nat) (va : Option Addr) (vc : Nat) (na : Option Addr) (nc : Nat) (ka : Option Addr) (kc : Nat) (oa : Option Addr) (oc : Nat) : Array Value :=
  #[.int .i64 q.method, .string q.name, .slice wa q.want.length wc, .slice va q.avoid.length vc, .int .i64 q.body.kind, .int .i64 q.body.num, .string q.body.text, .slice na q.body.names.length nc, .slice ka q.body.kids.length kc, .slice oa q.ops.length oc]
def ReqC (w : World) (S : Nat → Prop) (q : Reqn) (wa : Option Addr) (wc : Nat) (va : Option Addr) (vc : Nat) (na : Option Addr) (nc : Nat) (ka : Option Addr) (kc : Nat) (oa : Option Addr) (oc : Nat) : Prop :=
  q.name.size ≤ big ∧ StrsR w S wa wc q.want ∧ StrsR w S va vc q.avoid ∧ NodeC w S q.body na nc ka kc ∧ OpsR w S oa oc q.ops
def ReqR (w : World) (S : Nat → Prop) (q : Reqn) (v : Value) : Prop := ∃ wa wc va vc na nc ka kc oa oc, v = .agg (reqCells q wa wc va vc na nc ka kc oa oc) ∧ ReqC w S q wa wc va vc na nc ka kc oa oc
theorem ReqR.ext {X S : Nat → Prop} {w w' : World} (h : Ext X w w') (hS : ∀ k, S k → ¬ X k) {q : Reqn} {v : Value} (hs : ReqR w S q v) : ReqR w' S q v := by
  obtain ⟨wa, wc, va, vc, na, nc, ka, kc, oa, oc, hv, h1, h2, h3, h4, h5⟩ := hs
  exact ⟨wa, wc, va, vc, na, nc, ka, kc, oa, oc, hv, h1, h2.ext h hS, h3.ext h hS, h4.ext h hS, h5.ext h hS⟩
theorem ReqR.grow {S : Nat → Prop} {w w' : World} {q : Reqn} {v : Value} (hs : ReqR w S q v) (h : Grow w w') : ReqR w' S q v := hs.ext h (fun _ _ h => h)
end Go.Proofs.YtoedpagdklagdaaDoor
namespace Go.Proofs.YtoedpagdklagdaaDoor
open Go.RowKit Go.ChangeShapes Go.WideShapes Go.Deep
section
variable {H : Type} {enc : TypeId × Value → H} {W : World} {base : Nat} {sp : Nat → Bool} {held : Bool}
end
end Go.Proofs.YtoedpagdklagdaaDoor
namespace Go.Proofs.YtoedpagdklagdaaDoor
open Go.RowKit Go.ChangeShapes Go.WideShapes Go.Deep
section
variable {H : Type} {enc : TypeId × Value → H} {W : World} {base : Nat} {sp : Nat → Bool} {held : Bool}
theorem open_slR {α : Type} [Inhabited α] (E : Rep α) (hpos : 0 < E.n) (TS T : TypeId) (hu : Tryd.prog.underlying TS = some (.slice T)) (hc : Tryd.prog.cellsOf T = E.n)
    (hel : ∀ (fuel : Nat) (cs : List Value) (x : DataW H × List MemPlace), DataW.trod enc Tryd.prog W base sp held fuel T cs = some x → ∃ y, E.R W any y cs)
    {fuel : Nat} {cs : List Value} {x : DataW H × List MemPlace} (h : DataW.trod enc Tryd.prog W base sp held fuel TS cs = some x) :
    ∃ a c l, cs = [.slice a (l : List α).length c] ∧ SlR E W any a c l := by
  rcases open_slice hu h with ⟨rfl, _⟩ | ⟨a, len, cap, m, n, D, Pl, rfl, _, hl, hm, hmm, _, hi⟩
  · exact ⟨none, 0, [], rfl, by simp, by simp, .inl rfl⟩
  · have hlm : len ≤ m := by rw [hmm]; split <;> omega
    rw [hc] at hi
    have key : ∀ i, i < len → ∃ k : α × List Value, (∀ j v, k.2[j]? = some v → W.cell? (a.add (i * E.n + j)) = some v) ∧ E.R W any k.1 k.2 := fun i hi' => by
      obtain ⟨cs', h1, h2⟩ := hi i (by omega)
      obtain ⟨_, hlen, hat⟩ := World.cells?_some h1
      obtain ⟨y, hy⟩ := hel _ _ _ h2
      refine ⟨⟨y, cs'⟩, fun j v hv => ?_, hy⟩
      have hj : j < E.n := by
        have h3 : j < cs'.length := (List.getElem?_eq_some_iff.1 hv).1
        omega
      have := hat j hj
      rw [hv] at this
      simpa [Go.Deep.add_add] using this
    have : Inhabited (α × List Value) := ⟨⟨default, []⟩⟩
    obtain ⟨f, hf⟩ := choose_lt key
    have hkl : ((List.range len).map fun i => (f i).1).length = len := by simp
    have hbig : len ≤ big := by unfold maxLen at hm; unfold big; omega
    refine ⟨some a, cap, (List.range len).map fun i => (f i).1, by simp, by rw [hkl]; exact hl, by rw [hkl]; exact hbig, ?_⟩
    by_cases h0 : len = 0
    · subst h0; exact .inl rfl
    · have hr0 := (hf 0 (by omega)).2
      have hl0 := E.rlen hr0
      obtain ⟨v0, hv0⟩ : ∃ v0, (f 0).2[0]? = some v0 := ⟨_, List.getElem?_eq_getElem (by omega)⟩
      obtain ⟨b, o, ha⟩ := addr_spot ((hf 0 (by omega)).1 0 v0 hv0)
      have ha' : a = ⟨b, o, none⟩ := by simpa [Addr.add] using ha
      subst ha'
      refine .inr ⟨b, o, rfl, trivial, fun i hi' => ?_⟩
      rw [hkl] at hi'
      obtain ⟨k1, k2⟩ := hf i hi'
      simp only [List.getElem_map, List.getElem_range]
      refine ⟨_, fun j v hv => ?_, k2⟩
      have := k1 j v hv
      rw [add_mk] at this
      rw [Nat.add_assoc]; exact this
end
end Go.Proofs.YtoedpagdklagdaaDoor
namespace Go.Proofs.YtoedpagdklagdaaDoor
open Go.RowKit Go.ChangeShapes Go.WideShapes Go.Deep
section
variable {H : Type} {enc : TypeId × Value → H} {W : World} {base : Nat} {sp : Nat → Bool} {held : Bool}
theorem open_item (fuel : Nat) (cs : List Value) (x : DataW H × List MemPlace) (h : DataW.trod enc Tryd.prog W base sp held fuel 94 cs = some x) : ∃ y, itmRep.R W any y cs := by
  obtain ⟨xs, n, rfl, _, hlen, hxs, hf⟩ := DataW.trod_struct Tryd.underlying94 h
  have hc : Tryd.prog.cellsOf 94 = 7 := by kernel_rfl
  have c9 : Tryd.prog.cellsOf 9 = 1 := by kernel_rfl
  have cI : Tryd.prog.cellsOf 3 = 1 := by kernel_rfl
  have cN : Tryd.prog.cellsOf 25 = 5 := by kernel_rfl
  rw [hc] at hlen
  match cs, hlen with
  | [v0, v1, v2, v3, v4, v5, v6], _ =>
    obtain ⟨y0, g0⟩ : ∃ y, DataW.trod enc Tryd.prog W base sp held n 9 [v0] = some y := ⟨xs[0]'(by simp at hxs; omega), by
      have h := hf 0 _ rfl
      rw [List.getElem?_eq_getElem (by simp at hxs; omega)] at h
      simpa [c9, cI, cN] using h⟩
    obtain ⟨y1, g1⟩ : ∃ y, DataW.trod enc Tryd.prog W base sp held n 3 [v1] = some y := ⟨xs[1]'(by simp at hxs; omega), by
      have h := hf 1 _ rfl
      rw [List.getElem?_eq_getElem (by simp at hxs; omega)] at h
      simpa [c9, cI, cN] using h⟩
    obtain ⟨y2, g2⟩ : ∃ y, DataW.trod enc Tryd.prog W base sp held n 25 [v2, v3, v4, v5, v6] = some y := ⟨xs[2]'(by simp at hxs; omega), by
      have h := hf 2 _ rfl
      rw [List.getElem?_eq_getElem (by simp at hxs; omega)] at h
      simpa [c9, cI, cN] using h⟩
    obtain ⟨s, e0, _, hs⟩ := DataW.trod_string Tryd.underlying9 g0
    obtain ⟨k, e1, _⟩ := DataW.trod_int Tryd.underlying3 g1
    obtain ⟨q, na, nc, ka, kc, e2, hq⟩ := open_node _ _ _ g2
    have e0' : v0 = .string s := by simpa using e0
    have e1' : v1 = .int .i64 k := by simpa using e1
    exact ⟨(s, k, q), [v0], [v1, v2, v3, v4, v5, v6], rfl, ⟨by simp [e0'], by show s.size ≤ big; unfold maxLen at hs; unfold big; omega⟩, [v1], [v2, v3, v4, v5, v6], rfl, by simp [e1', intRep], na, nc, ka, kc, e2, hq⟩
theorem open_items {fuel : Nat} {cs : List Value} {x : DataW H × List MemPlace} (h : DataW.trod enc Tryd.prog W base sp held fuel 40 cs = some x) :
    ∃ a c l, cs = [.slice a (l : List Itm).length c] ∧ SlR itmRep W any a c l :=
  have : Inhabited Itm := ⟨(ByteArray.empty, 0, ⟨0, 0, ByteArray.empty, [], []⟩)⟩
  open_slR itmRep (by rw [itmRep_n]; omega) _ _ Tryd.underlying40 (by rw [itmRep_n]; kernel_rfl) open_item h
theorem rv_sto {fuel : Nat} {cs : Array Value} {x : DataW H × List MemPlace} (h : DataW.trod enc Tryd.prog W base sp held fuel 42 cs.toList = some x) : ∃ y, RV stoRep packA W any y (.agg cs) := by
  obtain ⟨xs, n, rfl, _, hlen, hxs, hf⟩ := DataW.trod_struct Tryd.underlying42 h
  have hc : Tryd.prog.cellsOf 42 = 2 := by kernel_rfl
  have cI : Tryd.prog.cellsOf 3 = 1 := by kernel_rfl
  have cS : Tryd.prog.cellsOf 40 = 1 := by kernel_rfl
  rw [hc] at hlen
  obtain ⟨l⟩ := cs
  match l, hlen with
  | [v0, v1], _ =>
    obtain ⟨y0, g0⟩ : ∃ y, DataW.trod enc Tryd.prog W base sp held n 40 [v0] = some y := ⟨xs[0]'(by simp at hxs; omega), by
      have h := hf 0 _ rfl
      rw [List.getElem?_eq_getElem (by simp at hxs; omega)] at h
      simpa [cS, cI] using h⟩
    obtain ⟨y1, g1⟩ : ∃ y, DataW.trod enc Tryd.prog W base sp held n 3 [v1] = some y := ⟨xs[1]'(by simp at hxs; omega), by
      have h := hf 1 _ rfl
      rw [List.getElem?_eq_getElem (by simp at hxs; omega)] at h
      simpa [cS, cI] using h⟩
    obtain ⟨a, c, l, e0, hl⟩ := open_items g0
    obtain ⟨k, e1, _⟩ := DataW.trod_int Tryd.underlying3 g1
    have e1' : v1 = .int .i64 k := by simpa using e1
    exact ⟨(l, k), [v0, v1], rfl, [v0], [v1], rfl, ⟨a, c, e0, hl⟩, by simp [e1', intRep]⟩
end
end Go.Proofs.YtoedpagdklagdaaDoor
