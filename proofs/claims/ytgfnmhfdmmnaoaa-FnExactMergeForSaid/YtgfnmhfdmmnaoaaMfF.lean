/-
  Texts of this claim, joined.
-/
import Derived.BigQuiet
import Derived.Laws.AppendOwn
import Derived.Laws.AppendOwnNone
import Derived.Laws.OwnMore
import Derived.Lib.Bytealg
import Derived.Test.YtgfnmhfdmmnaoaaMfE

set_option linter.unusedSimpArgs false
set_option linter.unusedVariables false
set_option linter.unnecessarySimpa false
set_option maxRecDepth 100000
set_option maxHeartbeats 16000000
namespace Go.Proofs.Ytgfnmhfdmmnaoaa
open Go.RowKit
mutual
def cntK : Nd → Nat
  | ⟨_, _, _, names, kids⟩ => 3 + names.length + cntL kids
def cntL : List Nd → Nat
  | [] => 0
  | x :: xs => cntK x + cntL xs
end
mutual
def mkK : Nat → Nd → Nd
  | k, ⟨_, _, _, names, kids⟩ => ⟨k, (k + 1 : Nat), mtxt (k + 2), mkS (k + 3) names.length, mkL (k + 3 + names.length) kids⟩
def mkL : Nat → List Nd → List Nd
  | _, [] => []
  | k, x :: xs => mkK k x :: mkL (k + cntK x) xs
end
theorem cntK_eq (n : Nd) : cntK n = 3 + n.names.length + cntL n.kids := by cases n; simp [cntK]
theorem mkK_eq (k : Nat) (n : Nd) : mkK k n = ⟨k, (k + 1 : Nat), mtxt (k + 2), mkS (k + 3) n.names.length, mkL (k + 3 + n.names.length) n.kids⟩ := by cases n; simp [mkK]
theorem mkL_len (k : Nat) (l : List Nd) : (mkL k l).length = l.length := by
  induction l generalizing k with
  | nil => rfl
  | cons x l ih => simp [mkL, ih]
theorem mkL_snoc (k : Nat) (l : List Nd) (x : Nd) : mkL k (l ++ [x]) = mkL k l ++ [mkK (k + cntL l) x] := by
  induction l generalizing k with
  | nil => simp [mkL, cntL]
  | cons a l ih => simp only [List.cons_append, mkL, ih, cntL]; rw [Nat.add_assoc]
theorem cntL_len (l : List Nd) : l.length ≤ cntL l := by
  induction l with
  | nil => simp
  | cons a l ih => simp only [cntL, List.length_cons, cntK_eq]; omega
theorem cntL_snoc (l : List Nd) (x : Nd) : cntL (l ++ [x]) = cntL l + cntK x := by
  induction l with
  | nil => simp [cntL]
  | cons a l ih => simp only [List.cons_append, cntL, ih]; omega
theorem cntL_take_le (l : List Nd) (j : Nat) : cntL (l.take j) ≤ cntL l := by
  induction l generalizing j with
  | nil => simp
  | cons a l ih => cases j with
    | zero => simp [cntL]
    | succ j => simp only [List.take_succ_cons, cntL]; have := ih j; omega
theorem KidsF.append {w : World} {b : Nat} : ∀ {l m : List Nd} {o : Nat} {f g : List Nat}, KidsF w b o l f → KidsF w b (o + l.length * 5) m g → KidsF w b o (l ++ m) (f ++ g)
  | [], m, o, f, g, h1, h2 => by
    unfold KidsF at h1; subst h1; simpa using h2
  | x :: l, m, o, f, g, h1, h2 => by
    unfold KidsF at h1
    obtain ⟨f1, f2, rfl, hx, hr⟩ := h1
    rw [List.cons_append]; unfold KidsF
    refine ⟨f1, f2 ++ g, by simp, hx, KidsF.append hr ?_⟩
    rw [show o + 5 + l.length * 5 = o + (x :: l).length * 5 by simp; omega]
    exact h2
theorem KidsF.split {w : World} {b : Nat} : ∀ {l m : List Nd} {o : Nat} {fp : List Nat}, KidsF w b o (l ++ m) fp → ∃ f g, fp = f ++ g ∧ KidsF w b o l f ∧ KidsF w b (o + l.length * 5) m g
  | [], m, o, fp, h => ⟨[], fp, rfl, by unfold KidsF; rfl, by simpa using h⟩
  | x :: l, m, o, fp, h => by
    rw [List.cons_append] at h; unfold KidsF at h
    obtain ⟨f1, f2, rfl, hx, hr⟩ := h
    obtain ⟨f, g, rfl, h1, h2⟩ := KidsF.split hr
    rw [show o + 5 + l.length * 5 = o + (x :: l).length * 5 by simp; omega] at h2
    exact ⟨f1 ++ f, g, by simp, by unfold KidsF; exact ⟨f1, f, rfl, hx, h1⟩, h2⟩
theorem set_ne (w : World) (b p b' q : Nat) (v : Value) (h : b' ≠ b ∨ q ≠ p) : (w.setCell ⟨b, p, none⟩ v).cell? ⟨b', q, none⟩ = w.cell? ⟨b', q, none⟩ :=
  World.cell?_setCell_other _ _ _ _ (by intro e; cases e; rcases h with h | h <;> exact h rfl)
def MkOk (n : Nd) : Prop := ∀ (a : Option Addr) (c : Nat) (fp : List Nat) (B k : Nat) (w : World), NodesF w a c n.kids fp → Free B w fp → 0 < k → k + cntL n.kids ≤ 1000000000 →
    Calls Try.prog 77 #[.slice a n.kids.length c, .int .i64 (k : Int)] w fun e w' => e = .returned (.int .i64 ((k + cntL n.kids : Nat) : Int)) ∧ Ext (inl fp) w w' ∧ Free B w' fp ∧ NodesF w' a c (mkL k n.kids) fp
theorem markNodeS_of (l : List Nd) (ih : ∀ x ∈ l, MkOk x) (a : Option Addr) (c : Nat) (fp : List Nat) (B k : Nat) (w : World) (hF : NodesF w a c l fp) (hfr : Free B w fp) (h1 : 0 < k) (h2 : k + cntL l ≤ 1000000000) (hl : l.length ≤ 1000000000) :
    Calls Try.prog 77 #[.slice a l.length c, .int .i64 (k : Int)] w fun e w' => e = .returned (.int .i64 ((k + cntL l : Nat) : Int)) ∧ Ext (inl fp) w w' ∧ Free B w' fp ∧ NodesF w' a c (mkL k l) fp := by
  obtain ⟨hle, hlen, hcc⟩ := hF
  rcases hcc with ⟨rfl, rfl⟩ | ⟨b, o, f, hne, rfl, rfl, hcc⟩
  · go_enter Try.func77, Try.ntmps77
    go_wp2_with fail
    go_loopw [1, 5] (fun t1 i wr => t1 = .int .i64 k ∧ i = .int .i64 0 ∧ wr = w) (fun _ _ _ => 0)
    case atStart => exact ⟨rfl, rfl, rfl⟩
    case round =>
      obtain ⟨rfl, rfl, rfl⟩ := hrel
      go_wp2_with fail
      go_ret
      exact ⟨by simp [cntL], Ext.refl _ _, hfr, ⟨by simp [mkL], by simp [mkL], .inl ⟨rfl, rfl⟩⟩⟩
  · have Hle := Lib.hid hle
    have Hlen := Lib.hid hlen
    have Hne := Lib.hid hne
    have Ih := Lib.hid ih
    have hK0 : KidsF w b o (mkL k (l.take 0) ++ l.drop 0) f := by simpa [mkL] using hcc
    clear hle hlen hne hcc ih
    go_enter Try.func77, Try.ntmps77
    go_wp2_with fail
    go_loopw [1, 5] (fun t1 i wr => ∃ j : Nat, j ≤ l.length ∧ i = .int .i64 j ∧ t1 = .int .i64 ((k + cntL (l.take j) : Nat) : Int) ∧ Ext (inl (b :: f)) w wr ∧ Free B wr (b :: f) ∧ KidsF wr b o (mkL k (l.take j) ++ l.drop j) f) (fun _ i _ => l.length - (intOf i).toNat)
    case atStart => exact ⟨0, Nat.zero_le _, rfl, rfl, Ext.refl _ _, hfr, hK0⟩
    case round =>
      obtain ⟨j, hj, rfl, rfl, hg, hfr', hK⟩ := hrel
      have hct := cntL_take_le l j
      have Hg := Lib.hid hg
      have Hfr := Lib.hid hfr'
      have HK := Lib.hid hK
      clear hg hfr' hK hfr hK0
      by_cases hlt : j < l.length
      · obtain ⟨x, hx⟩ : ∃ x, x = l[j] := ⟨_, rfl⟩
        have hxm : x ∈ l := by rw [hx]; exact List.getElem_mem hlt
        have htk : l.take (j + 1) = l.take j ++ [x] := by rw [take_snoc' _ _ hlt, hx]
        have hct2 := cntL_take_le l (j + 1)
        rw [htk, cntL_snoc, cntK_eq] at hct2
        have hdr : l.drop j = x :: l.drop (j + 1) := by rw [drop_cons _ _ hlt, hx]
        have hK := HK.out
        rw [hdr] at hK
        obtain ⟨f1, f', hf, hK1, hK2⟩ := hK.split
        have hjl : (mkL k (l.take j)).length = j := by rw [mkL_len]; simp; omega
        rw [hjl] at hK2
        unfold KidsF at hK2
        obtain ⟨fx, f2, hf', ⟨na, nc, ka, kc, c0, c1, c2, c3, c4, hx5⟩, hK3⟩ := hK2
        obtain ⟨g1, g2, hfx, htx, hnm, hkd⟩ := hx5.parts
        obtain ⟨k', hk'⟩ : ∃ k', k' = k + cntL (l.take j) := ⟨_, rfl⟩
        have hb9 : k' + (3 + x.names.length + cntL x.kids) ≤ 1000000000 := by omega
        rw [← hk']
        clear hct2 hct
        have hfz := (Hfr.out.2 b (by simp)).2.2
        have hnd := Hfr.out.1
        rw [hf, hf', hfx] at hnd
        replace hnd := (List.nodup_cons.1 hnd).2
        have hnl : x.names.length ≤ 1000000000 := by omega
        have Hf := Lib.hid hf
        have Hf' := Lib.hid hf'
        have Hfx := Lib.hid hfx
        have HK1 := Lib.hid hK1
        have HK3 := Lib.hid hK3
        have Hnm := Lib.hid hnm
        have Hkd := Lib.hid hkd
        have Htk := Lib.hid htk
        have Hk' := Lib.hid hk'
        have Hnd := Lib.hid hnd
        have C0 := Lib.hid c0
        have C1 := Lib.hid c1
        have C2 := Lib.hid c2
        have C3 := Lib.hid c3
        have C4 := Lib.hid c4
        clear hx hdr hK hf hK1 hf' hK3 hfx htx hnm hkd hx5 htk hk' hnd HK hjl
        have hbw : b < wr.heap.size := lt_of_cell c0
        have hbf : b ∉ f := (List.nodup_cons.1 Hfr.out.1).1
        have hg1f : ∀ y ∈ g1, y ∈ f := fun y hy => by rw [Hf.out, Hf'.out, Hfx.out]; simp [hy]
        have hg2f : ∀ y ∈ g2, y ∈ f := fun y hy => by rw [Hf.out, Hf'.out, Hfx.out]; simp [hy]
        have hf1f : ∀ y ∈ f1, y ∈ f := fun y hy => by rw [Hf.out]; simp [hy]
        have hf2f : ∀ y ∈ f2, y ∈ f := fun y hy => by rw [Hf.out, Hf'.out]; simp [hy]
        have hnd1 : ∀ y, y ∈ f1 → y ∉ g1 ∧ y ∉ g2 := fun y hy => by
          have := (List.nodup_append.1 Hnd.out).2.2 y hy
          exact ⟨fun h => this y (by simp [h]) rfl, fun h => this y (by simp [h]) rfl⟩
        have hnd2 : ∀ y, y ∈ f2 → y ∉ g1 ∧ y ∉ g2 := fun y hy => by
          have h3 := (List.nodup_append.1 (List.nodup_append.1 Hnd.out).2.1).2.2
          exact ⟨fun h => h3 y (by simp [h]) y hy rfl, fun h => h3 y (by simp [h]) y hy rfl⟩
        have hndg : ∀ y, y ∈ g2 → y ∉ g1 := fun y hy h => (List.nodup_append.1 (List.nodup_append.1 (List.nodup_append.1 Hnd.out).2.1).1).2.2 y h y hy rfl
        have hg1n : g1.Nodup := (List.nodup_append.1 (List.nodup_append.1 (List.nodup_append.1 Hnd.out).2.1).1).1
        have hg2n : g2.Nodup := (List.nodup_append.1 (List.nodup_append.1 (List.nodup_append.1 Hnd.out).2.1).1).2.1
        have Hbf := Lib.hid hbf
        have Hg1f := Lib.hid hg1f
        have Hg2f := Lib.hid hg2f
        have Hf1f := Lib.hid hf1f
        have Hf2f := Lib.hid hf2f
        have Hnd1 := Lib.hid hnd1
        have Hnd2 := Lib.hid hnd2
        have Hndg := Lib.hid hndg
        have Hg1n := Lib.hid hg1n
        have Hg2n := Lib.hid hg2n
        have Hhxm := Lib.hid hxm
        clear hbf hg1f hg2f hf1f hf2f hnd1 hnd2 hndg hg1n hg2n hxm
        go_wp2_with fail
        refine (markText_i (k' + 2) _ _ (by omega) (by omega) (by omega)).mono ?_
        rintro e w2 ⟨rfl, hg2⟩
        obtain ⟨wa, hwa⟩ : ∃ wa, wa = (wr.setCell ⟨b, o + j * 5, none⟩ (.int .i64 k')).setCell ⟨b, o + j * 5 + 1, none⟩ (.int .i64 ((k' : Int) + 1)) := ⟨_, rfl⟩
        rw [← hwa] at hg2
        have hra : Ext (inl [b]) wr wa := by
          rw [hwa]
          exact (Ext.setIn (X := inl [b]) (Ext.refl _ wr) (p := ⟨b, o + j * 5, none⟩) (by simp [inl]) _).setIn (p := ⟨b, o + j * 5 + 1, none⟩) (by simp [inl]) _
        have a0 : wa.cell? ⟨b, o + j * 5, none⟩ = some (.int .i64 k') := by
          rw [hwa, set_ne _ _ _ _ _ _ (.inr (by omega)), cell_set C0.out, if_pos rfl]
        have a1 : wa.cell? ⟨b, o + j * 5 + 1, none⟩ = some (.int .i64 ((k' : Int) + 1)) := by
          rw [hwa]
          have : (wr.setCell ⟨b, o + j * 5, none⟩ (.int .i64 k')).cell? ⟨b, o + j * 5 + 1, none⟩ = some (.int .i64 x.num) := by rw [set_ne _ _ _ _ _ _ (.inr (by omega))]; exact C1.out
          rw [cell_set this, if_pos rfl]
        have lba : b < wa.heap.size := lt_of_cell a0
        have aq : ∀ q, q ≠ o + j * 5 → q ≠ o + j * 5 + 1 → wa.cell? ⟨b, q, none⟩ = wr.cell? ⟨b, q, none⟩ := fun q q0 q1 => by
          rw [hwa, set_ne _ _ _ _ _ _ (.inr q1), set_ne _ _ _ _ _ _ (.inr q0)]
        have az : ∀ q, wa.frozen? ⟨b, q, none⟩ = false := fun q => by
          rw [hwa, World.frozen?_setCell, World.frozen?_setCell]; exact hfz q
        have h2a := hg2.some a0
        have h2b := hg2.some a1
        have d2 : w2.cell? ⟨b, o + j * 5 + 2, none⟩ = some (.string x.text) := hg2.some (by rw [aq _ (by omega) (by omega)]; exact C2.out)
        have d3 : w2.cell? ⟨b, o + j * 5 + 3, none⟩ = some (.slice na x.names.length nc) := hg2.some (by rw [aq _ (by omega) (by omega)]; exact C3.out)
        have d4 : w2.cell? ⟨b, o + j * 5 + 4, none⟩ = some (.slice ka x.kids.length kc) := hg2.some (by rw [aq _ (by omega) (by omega)]; exact C4.out)
        have dz : ∀ q, w2.frozen? ⟨b, q, none⟩ = false := fun q => by rw [hg2.frozen (p := ⟨b, q, none⟩) lba (fun h => h)]; exact az q
        have hr2 : Ext (inl [b]) wr w2 := hra.trans hg2.toX
        have hq2 : ∀ q, q ≠ o + j * 5 → q ≠ o + j * 5 + 1 → w2.cell? ⟨b, q, none⟩ = wr.cell? ⟨b, q, none⟩ := fun q q0 q1 => by
          rw [hg2.cell (p := ⟨b, q, none⟩) lba (fun h => h)]; exact aq q q0 q1
        have H2a := Lib.hid h2a
        have H2b := Lib.hid h2b
        have D2 := Lib.hid d2
        have D3 := Lib.hid d3
        have D4 := Lib.hid d4
        have Hr2 := Lib.hid hr2
        have Hq2 := Lib.hid hq2
        have Dz := Lib.hid dz
        clear lba hwa hra a0 a1 aq az h2a h2b hg2 hr2 hq2 hfz d4 c0 c1 c2 c3 c4
        go_wp2_with fail
        obtain ⟨wb, hwb⟩ : ∃ wb, wb = w2.setCell ⟨b, o + j * 5 + 2, none⟩ (.string (mtxt (k' + 2))) := ⟨_, rfl⟩
        rw [← hwb]
        have hrb : Ext (inl [b]) wr wb := by rw [hwb]; exact Hr2.out.setIn (p := ⟨b, o + j * 5 + 2, none⟩) (by simp [inl]) _
        have Hrb := Lib.hid hrb
        have fr1 : Free B wr g1 := ⟨Hg1n.out, fun y hy => Hfr.out.2 y (by simp [Hg1f.out y hy])⟩
        have fr2 : Free B wr g2 := ⟨Hg2n.out, fun y hy => Hfr.out.2 y (by simp [Hg2f.out y hy])⟩
        have n1 : ∀ y ∈ g1, ¬ inl [b] y := fun y hy h => by simp [inl] at h; subst h; exact Hbf.out (Hg1f.out _ hy)
        have n2 : ∀ y ∈ g2, ¬ inl [b] y := fun y hy h => by simp [inl] at h; subst h; exact Hbf.out (Hg2f.out _ hy)
        refine (markStringS_i na nc x.names g1 B (k' + 3) _ wb (by omega) (Hnm.out.keep (hrb.keeps fr1 n1)) (fr1.ext hrb n1) (by omega) (by omega)).mono ?_
        rintro e w3 ⟨rfl, hg3, hfr3, hs3⟩
        have b4 : wb.cell? ⟨b, o + j * 5 + 4, none⟩ = some (.slice ka x.kids.length kc) := by rw [hwb, set_ne _ _ _ _ _ _ (.inr (by omega))]; exact D4.out
        have hb1 : ¬ inl g1 b := fun h => Hbf.out (Hg1f.out _ h)
        have e4 := hg3.some b4 hb1
        have Hg3 := Lib.hid hg3
        have Hfr3 := Lib.hid hfr3
        have Hs3 := Lib.hid hs3
        have Hwb := Lib.hid hwb
        have Hb4 := Lib.hid b4
        have Hb1 := Lib.hid hb1
        have Fr1 := Lib.hid fr1
        have Fr2 := Lib.hid fr2
        have N1 := Lib.hid n1
        have N2 := Lib.hid n2
        clear hrb fr1 fr2 n1 n2 hg3 hfr3 hs3 hwb b4 hb1 d2 d3 dz
        go_wp2_with fail
        have hr3 : Ext (inl (b :: g1)) wr w3 := (Hrb.out.mono (fun y hy => by simp [inl] at hy ⊢; exact .inl hy)).trans (Hg3.out.mono (fun y hy => by simp [inl] at hy ⊢; exact .inr hy))
        have m2 : ∀ y ∈ g2, ¬ inl (b :: g1) y := fun y hy h => by
          simp [inl] at h
          rcases h with h | h
          · subst h; exact Hbf.out (Hg2f.out _ hy)
          · exact Hndg.out y hy h
        refine (Ih.out x Hhxm.out ka kc g2 B (k' + 3 + x.names.length) w3 ?_ (Fr2.out.ext hr3 m2) (by omega) (by omega)).mono ?_
        · obtain ⟨t1, t2, t3⟩ := Hkd.out
          refine ⟨t1, t2, t3.imp id ?_⟩
          rintro ⟨bb, oo, ff, u1, u2, u3, u4⟩
          have kk := hr3.keeps Fr2.out m2
          exact ⟨bb, oo, ff, u1, u2, u3, u4.keep (fun y hy => kk y (by rw [u3]; simp [hy])) (fun o' _ _ => kk bb (by rw [u3]; simp) o')⟩
        rintro e w4 ⟨rfl, hg4, hfr4, hs4⟩
        have Hr3 := Lib.hid hr3
        have M2 := Lib.hid m2
        have Hg4 := Lib.hid hg4
        have Hfr4 := Lib.hid hfr4
        have Hs4 := Lib.hid hs4
        clear hr3 m2 hg4 hfr4 hs4 e4
        go_wp2_with fail
        go_roundw
        case rel =>
          have hb2 : ¬ inl g2 b := fun h => Hbf.out (Hg2f.out _ h)
          have hr4 : Ext (inl (b :: (g1 ++ g2))) wr w4 := (Hr3.out.mono (fun y hy => by simp [inl] at hy ⊢; rcases hy with h | h; exact .inl h; exact .inr (.inl h))).trans (Hg4.out.mono (fun y hy => by simp [inl] at hy ⊢; exact .inr (.inr hy)))
          have q4 : ∀ q, w4.cell? ⟨b, q, none⟩ = wb.cell? ⟨b, q, none⟩ := fun q => by
            have l1 : b < wb.heap.size := lt_of_cell Hb4.out
            rw [Hg4.out.cell (p := ⟨b, q, none⟩) (Nat.lt_of_lt_of_le l1 Hg3.out.size) hb2, Hg3.out.cell (p := ⟨b, q, none⟩) l1 Hb1.out]
          have qb : ∀ q, q ≠ o + j * 5 + 2 → wb.cell? ⟨b, q, none⟩ = w2.cell? ⟨b, q, none⟩ := fun q h => by rw [Hwb.out, set_ne _ _ _ _ _ _ (.inr h)]
          have z4 : ∀ q, w4.frozen? ⟨b, q, none⟩ = false := fun q => by
            have l1 : b < wb.heap.size := lt_of_cell Hb4.out
            rw [Hg4.out.frozen (p := ⟨b, q, none⟩) (Nat.lt_of_lt_of_le l1 Hg3.out.size) hb2, Hg3.out.frozen (p := ⟨b, q, none⟩) l1 Hb1.out, Hwb.out, World.frozen?_setCell]
            exact Dz.out q
          have hE : Ext (inl (b :: f)) w w4 := Hg.out.trans (hr4.mono (fun y hy => by
            simp [inl] at hy ⊢
            rcases hy with h | h | h
            · exact .inl h
            · exact .inr (Hg1f.out _ h)
            · exact .inr (Hg2f.out _ h)))
          have hFree : Free B w4 (b :: f) := by
            refine Hfr.out.sub hr4 (fun y hy q => ?_)
            rcases List.mem_cons.1 hy with rfl | hy
            · exact z4 q
            · rcases List.mem_append.1 hy with h | h
              · have := (Hfr3.out.2 y h).2
                rw [Hg4.out.frozen (p := ⟨y, q, none⟩) this.1 (fun h' => Hndg.out y h' h)]
                exact this.2 q
              · exact (Hfr4.out.2 y h).2.2 q
          refine ⟨j + 1, by omega, by go_num, ?_, hE, hFree, ?_⟩
          · rw [Htk.out, cntL_snoc, cntK_eq, Hk'.out]
            congr 1
            have := Hk'.out
            omega
          · rw [Htk.out, mkL_snoc, ← Hk'.out, Hf.out, Hf'.out, List.append_assoc]
            have keepF : ∀ y, y ∉ g1 → y ∉ g2 → y ∈ f → ∀ q, w4.cell? ⟨y, q, none⟩ = wr.cell? ⟨y, q, none⟩ := fun y y1 y2 yf q => by
              refine hr4.cell (p := ⟨y, q, none⟩) (Hfr.out.2 y (by simp [yf])).2.1 (fun h => ?_)
              simp [inl] at h
              rcases h with h | h | h
              · subst h; exact Hbf.out yf
              · exact y1 h
              · exact y2 h
            have hjl : (mkL k (l.take j)).length = j := by rw [mkL_len]; simp; omega
            refine KidsF.append (HK1.out.keep (fun y hy q => keepF y (Hnd1.out y hy).1 (Hnd1.out y hy).2 (Hf1f.out y hy) q) (fun q _ hq => ?_)) ?_
            · rw [hjl] at hq
              rw [q4, qb _ (by omega)]
              exact Hq2.out q (by omega) (by omega)
            · rw [hjl]
              show KidsF w4 b (o + j * 5) (mkK k' x :: l.drop (j + 1)) (fx ++ f2)
              unfold KidsF
              refine ⟨fx, f2, rfl, ⟨na, nc, ka, kc, ?_, ?_, ?_, ?_, ?_, ?_⟩, HK3.out.keep (fun y hy q => keepF y (Hnd2.out y hy).1 (Hnd2.out y hy).2 (Hf2f.out y hy) q) (fun q hq _ => ?_)⟩
              · rw [q4, qb _ (by omega), H2a.out, mkK_eq]
              · rw [q4, qb _ (by omega), H2b.out, mkK_eq]; rfl
              · rw [q4, Hwb.out, cell_set D2.out, if_pos rfl, mkK_eq]
              · rw [q4, qb _ (by omega), D3.out, mkK_eq, mkS_len]
              · rw [q4, Hb4.out, mkK_eq, mkL_len]
              · rw [Hfx.out, mkK_eq]
                refine NodeF.mk (mtxt_size _ (by omega)) (Hs3.out.keep (fun y hy q => ?_)) Hs4.out
                exact Hg4.out.cell (p := ⟨y, q, none⟩) (Hfr3.out.2 y hy).2.1 (fun h => Hndg.out y h hy)
              · rw [q4, qb _ (by omega)]
                exact Hq2.out q (by omega) (by omega)
        case measure => simp [intOf]; omega
      · have hje : j = l.length := by omega
        subst hje
        have hK := HK.out
        rw [List.take_length, List.drop_length, List.append_nil] at hK
        have HK2 := Lib.hid hK
        clear hK
        simp only [List.take_length]
        go_wp2_with fail
        go_ret
        refine ⟨by simp, Hg.out, Hfr.out, ⟨by rw [mkL_len]; exact Hle.out, by rw [mkL_len]; exact Hlen.out, .inr ⟨b, o, f, ?_, rfl, rfl, HK2.out⟩⟩⟩
        intro h
        have := congrArg List.length h
        rw [mkL_len] at this
        exact Hne.out (List.length_eq_zero_iff.1 this)
theorem markNodeS_all : ∀ n, MkOk n := by
  refine Nd.ind' MkOk ?_
  intro n ih a c fp B k w hF hfr h1 h2
  exact markNodeS_of n.kids ih a c fp B k w hF hfr h1 h2 (by have := cntL_len n.kids; omega)
theorem markNodeS_ok (l : List Nd) (a : Option Addr) (c : Nat) (fp : List Nat) (B k : Nat) (i : Int) (w : World) (hi : i = (k : Int)) (hF : NodesF w a c l fp) (hfr : Free B w fp) (h1 : 0 < k) (h2 : k + cntL l ≤ 1000000000) :
    Calls Try.prog 77 #[.slice a l.length c, .int .i64 i] w fun e w' => e = .returned (.int .i64 ((k + cntL l : Nat) : Int)) ∧ Ext (inl fp) w w' ∧ Free B w' fp ∧ NodesF w' a c (mkL k l) fp := by
  subst hi
  exact markNodeS_of l (fun x _ => markNodeS_all x) a c fp B k w hF hfr h1 h2 (by have := cntL_len l; omega)
end Go.Proofs.Ytgfnmhfdmmnaoaa
namespace Go.Proofs.Ytgfnmhfdmmnaoaa
open Go.RowKit
theorem mkL_get (k : Nat) (l : List Nd) (j : Nat) (h : j < l.length) (h' : j < (mkL k l).length) : (mkL k l)[j] = mkK (k + cntL (l.take j)) l[j] := by
  induction l generalizing k j with
  | nil => simp at h
  | cons x l ih =>
    cases j with
    | zero => simp [mkL, cntL]
    | succ j =>
      simp only [mkL, List.getElem_cons_succ, List.take_succ_cons, cntL]
      rw [ih _ _ (by simpa using h)]
      rw [Nat.add_assoc]
def HeldOk (n : Nd) : Prop := ∀ (a : Option Addr) (c k : Nat) (i : Int) (w : World), i = (k : Int) → NodesR w any a c (mkL k n.kids) → 0 < k → k + cntL n.kids ≤ 1000000000 →
    Calls Try.prog 78 #[.slice a n.kids.length c, .int .i64 i] w fun e w' => e = .returned (.int .i64 ((k + cntL n.kids : Nat) : Int)) ∧ Grow w w'
theorem heldNodeS_of (l : List Nd) (ih : ∀ x ∈ l, HeldOk x) (a : Option Addr) (c k : Nat) (i : Int) (w : World) (hi : i = (k : Int)) (ha : NodesR w any a c (mkL k l)) (h1 : 0 < k) (h2 : k + cntL l ≤ 1000000000) :
    Calls Try.prog 78 #[.slice a l.length c, .int .i64 i] w fun e w' => e = .returned (.int .i64 ((k + cntL l : Nat) : Int)) ∧ Grow w w' := by
  subst hi
  have hll := cntL_len l
  have Ha := Lib.hid ha
  have Ih := Lib.hid ih
  clear ha ih
  go_enter Try.func78, Try.ntmps78
  go_wp2_with fail
  go_loopw [1, 4, 5] (fun t1 t4 i wr => t4 = .int .i64 0 ∧ Grow w wr ∧ ∃ j : Nat, j ≤ l.length ∧ i = .int .i64 j ∧ t1 = .int .i64 ((k + cntL (l.take j) : Nat) : Int)) (fun _ _ i _ => l.length - (intOf i).toNat)
  case atStart => exact ⟨rfl, Ext.refl _ _, 0, Nat.zero_le _, rfl, rfl⟩
  case round =>
    obtain ⟨rfl, hg, j, hj, rfl, rfl⟩ := hrel
    have hct := cntL_take_le l j
    by_cases hlt : j < l.length
    · have hjl : j < (mkL k l).length := by rw [mkL_len]; exact hlt
      obtain ⟨_, _, ha4⟩ := (Ha.out).grow hg
      rcases ha4 with hh | ⟨b, o, rfl, _, hkr⟩
      · rw [hh] at hjl; simp at hjl
      obtain ⟨na, nc, ka, kc, c0, c1, c2, c3, c4, hkc⟩ := hkr.get j hjl
      rw [mkL_get k l j hlt hjl] at c0 c1 c2 c3 c4 hkc
      have hct2 := cntL_take_le l (j + 1)
      have htk : l.take (j + 1) = l.take j ++ [l[j]] := take_snoc' _ _ hlt
      rw [htk, cntL_snoc, cntK_eq] at hct2
      obtain ⟨k', hk'⟩ : ∃ k', k' = k + cntL (l.take j) := ⟨_, rfl⟩
      rw [← hk'] at c0 c1 c2 c3 c4 hkc ⊢
      obtain ⟨x, hx⟩ : ∃ x, x = l[j] := ⟨_, rfl⟩
      have hxm : x ∈ l := by rw [hx]; exact List.getElem_mem hlt
      rw [← hx] at c0 c1 c2 c3 c4 hkc hct2 htk
      have hb9 : k' + (3 + x.names.length + cntL x.kids) ≤ 1000000000 := by omega
      obtain ⟨_, hnm, hkd⟩ := hkc.parts
      rw [mkK_eq] at c0 c1 c2 c3 c4 hnm hkd
      simp only [mkS_len, mkL_len] at c0 c1 c2 c3 c4
      have Hnm := Lib.hid hnm
      have Hkd := Lib.hid hkd
      have Htk := Lib.hid htk
      have Hk' := Lib.hid hk'
      have Hxm := Lib.hid hxm
      have e0 : ((k' : Int) != (k' : Int)) = false := by simp
      have e1 : (((k' + 1 : Nat) : Int) != ((k' : Int) + 1)) = false := by simp
      clear hkr hkc hnm hkd htk hk' hx hxm hct hct2 Ha
      simp only [Int.natCast_add, Int.natCast_one] at c1
      go_wp2_with fail
      (refine wp_region_later (by kernel_rfl) (by kernel_rfl) ?_; (repeat (first | go_big_quiet_step ((go_at_call 109; exact later_call (v := .string (mtxt (k' + 2))) (markText_i (k' + 2) _ _ (by omega) (by omega) (by omega)))) | quiet_step ((go_at_call 109; exact later_call (v := .string (mtxt (k' + 2))) (markText_i (k' + 2) _ _ (by omega) (by omega) (by omega)))))); refine wpQuiet_nil ?_; rintro _ ⟨x_w2, rfl⟩; have hg_w2 := later_grow wr x_w2; generalize later wr x_w2 = w2 at hg_w2 ⊢)
      (replace c3 := hg_w2.some c3; replace c4 := hg_w2.some c4)
      go_wp2_with fail
      refine (heldStringS_i na nc x.names.length (k' + 3) _ _ (by omega) (Hnm.out.grow hg_w2) (by omega) (by omega)).mono ?_
      rintro e w3 ⟨rfl, hg_w3⟩
      (replace c4 := hg_w3.some c4)
      go_wp2_with fail
      refine (Ih.out x Hxm.out ka kc (k' + 3 + x.names.length) _ _ (by omega) (Hkd.out.grow (hg_w2.trans hg_w3)) (by omega) (by omega)).mono ?_
      rintro e w4 ⟨rfl, hg_w4⟩
      go_wp2_with fail
      go_roundw
      case rel =>
        refine ⟨rfl, ((hg.trans hg_w2).trans hg_w3).trans hg_w4, j + 1, by omega, by go_num, ?_⟩
        rw [Htk.out, cntL_snoc, cntK_eq]
        congr 1
        have := Hk'.out
        omega
      case measure => simp [intOf]; omega
    · go_wp2_with fail
      go_ret
      exact ⟨by rw [show j = l.length by omega]; simp, hg⟩
theorem heldNodeS_all : ∀ n, HeldOk n := by
  refine Nd.ind' HeldOk ?_
  intro n ih a c k i w hi ha h1 h2
  exact heldNodeS_of n.kids ih a c k i w hi ha h1 h2
theorem heldNodeS_ok (l : List Nd) (a : Option Addr) (c k : Nat) (i : Int) (w : World) (hi : i = (k : Int)) (ha : NodesR w any a c (mkL k l)) (h1 : 0 < k) (h2 : k + cntL l ≤ 1000000000) :
    Calls Try.prog 78 #[.slice a l.length c, .int .i64 i] w fun e w' => e = .returned (.int .i64 ((k + cntL l : Nat) : Int)) ∧ Grow w w' :=
  heldNodeS_of l (fun x _ => heldNodeS_all x) a c k i w hi ha h1 h2
def cntT (n : Nd) : Nat := n.names.length + cntL n.kids
def mkT (k : Nat) (n : Nd) : Nd := ⟨n.kind, n.num, n.text, mkS k n.names.length, mkL (k + n.names.length) n.kids⟩
end Go.Proofs.Ytgfnmhfdmmnaoaa
namespace Go.Proofs.Ytgfnmhfdmmnaoaa
open Go.RowKit
end Go.Proofs.Ytgfnmhfdmmnaoaa
namespace Go.Proofs.Ytgfnmhfdmmnaoaa
open Go.RowKit
end Go.Proofs.Ytgfnmhfdmmnaoaa
namespace Go.Proofs.Ytgfnmhfdmmnaoaa
open Go.RowKit
def Good (n : Nd) : Prop := ∃ d, shapeB n d = true
theorem Good.parts {n : Nd} (h : Good n) : partsB n = true := by
  obtain ⟨d, h⟩ := h
  rw [shapeB_eq] at h
  simp only [Bool.and_eq_true] at h
  exact h.1.2
theorem Good.kid {n k : Nd} (h : Good n) (hk : k ∈ n.kids) : Good k := by
  obtain ⟨d, h⟩ := h
  rw [shapeB_eq, shapeL_all] at h
  simp only [Bool.and_eq_true, List.all_eq_true] at h
  exact ⟨d - 1, h.2 k hk⟩
theorem Good.zero : Good Nd.zero := ⟨1, by simp [shapeB_eq, partsB, Nd.zero, shapeL]⟩
theorem Good.kids6 {n : Nd} (h : Good n) : n.kids.length ≤ 6 := partsB_kids h.parts
theorem Good.map {n : Nd} (h : Good n) (hk : n.kind = 4) : Asc n.names ∧ n.kids.length = n.names.length := by
  have hp := h.parts
  simp only [partsB, hk, Bool.and_eq_true] at hp
  simp [areNamesB] at hp
  exact ⟨namesB_asc hp.2.1.2, hp.2.2⟩
theorem Good.other {n : Nd} (h : Good n) (hk : n.kind ≠ 4) : n.names = [] := by
  have hp := h.parts
  simp only [partsB, hk, Bool.and_eq_true] at hp
  simp at hp
  exact hp.1.2
theorem Good.asc {n : Nd} (h : Good n) : Asc n.names := by
  by_cases hk : n.kind = 4
  · exact (h.map hk).1
  · rw [h.other hk]; intro i j hi; simp at hi
theorem Good.len {n : Nd} (h : Good n) : n.names.length ≤ n.kids.length := by
  by_cases hk : n.kind = 4
  · rw [(h.map hk).2]; exact Nat.le_refl _
  · rw [h.other hk]; exact Nat.zero_le _
theorem Good.kidOf {n : Nd} (h : Good n) (s : ByteArray) : Good (kidOf n s) := by
  cases hm : mem n.names s
  · rw [kidOf_no hm]; exact Good.zero
  · exact h.kid (kidOf_mem h.asc h.len hm)
end Go.Proofs.Ytgfnmhfdmmnaoaa
namespace Go.Proofs.Ytgfnmhfdmmnaoaa
open Go Go.RowKit
section
variable {P : Program} {ops : Array Oper} {Vs : Nat → Option (Value → World → Prop)} {w : World} {Q : Act → World → Prop}
theorem drew_grow {w w' : World} (h : Grow w.drew w') : Grow w w' := ((Ext.refl nil w).drew).trans h
theorem wpStab_made {o : Oper} {rest : List Oper} {k : Nat} {a : Act} {E : Env} (V : Value → World → Prop) (hw : Region.wanted o (yielded ops a.tmps) = true) (hV : Vs k = some V)
    (h : ∀ x : Later w, (∀ e ∈ o.after, Region.binds .any e = true → E e.on (later w x)) → stabAt Grow P o a (later w x) V)
    (h2 : ∀ v, wpStab P ops Grow Vs (fun w' => Grow w.drew w') Q rest (k + 1) (a.put o.dst v) (E.upd k (V v))) :
    wpStab P ops Grow Vs (fun w' => Grow w.drew w') Q (o :: rest) k a E := by
  unfold wpStab
  rw [if_pos hw]
  unfold does
  rw [hV]
  exact ⟨fun w' hc => h ⟨w', drew_grow hc.1⟩ hc.2, fun v w' _ _ _ => h2 v⟩
theorem wpStab_const {o : Oper} {rest : List Oper} {k : Nat} {a : Act} {E : Env} (c : Value) (hw : Region.wanted o (yielded ops a.tmps) = true) (hV : Vs k = some (fun v _ => v = c))
    (h : ∀ x : Later w, (∀ e ∈ o.after, Region.binds .any e = true → E e.on (later w x)) → stabAt Grow P o a (later w x) (fun v _ => v = c))
    (h2 : wpStab P ops Grow Vs (fun w' => Grow w.drew w') Q rest (k + 1) (a.put o.dst c) (E.upd k (fun _ => True))) :
    wpStab P ops Grow Vs (fun w' => Grow w.drew w') Q (o :: rest) k a E := by
  unfold wpStab
  rw [if_pos hw]
  unfold does
  rw [hV]
  refine ⟨fun w' hc => h ⟨w', drew_grow hc.1⟩ hc.2, fun v w' _ _ hv => ?_⟩
  subst hv
  have : (fun (u : Value) (_ : World) => u = v) v = (fun _ => True) := by funext _; simp
  rw [this]
  exact h2
theorem wpStab_end {k : Nat} {a : Act} {E : Env} (h : ∀ w', Grow w w' → Q a w') : wpStab P ops Grow Vs (fun w' => Grow w.drew w') Q [] k a E :=
  fun w' hc _ => h w' (drew_grow hc)
theorem stabAt_call {o : Oper} {a : Act} {w : World} {V : Value → World → Prop} {f : FuncId} {args : Array Value} (h : (execOp a.eval o).run P w = .ok (.enter f args) w)
    (hc : Calls P f args w fun e w' => ∃ v, e = .returned v ∧ Grow w w' ∧ V v w') : stabAt Grow P o a w V := by
  unfold stabAt
  rw [h]
  exact ⟨rfl, hc⟩
end
end Go.Proofs.Ytgfnmhfdmmnaoaa
namespace Go.Proofs.Ytgfnmhfdmmnaoaa
open Go Go.RowKit
def easy (o : Oper) : Bool :=
  match o.op with
  | .move _ | .assign _ | .pick _ _ _ | .load _ _ | .fieldAddr _ _ _ | .indexAddr _ _ _ | .index _ _ _ | .field _ _ _ | .extract _ _ | .binOp _ _ _ _ _ | .unOp _ _ _ | .convert _ _ _ | .slice _ _ _ _ _ | .build _ _ => true
  | .call { callee := .builtin .len, args := _, argTypes := _ } => true
  | _ => false
theorem pureVal_run {P : Program} (s : Sem Value) (w w' : World) (f : FuncId) (args : Array Value) : (do pure (Next.value (← s)) : Sem Next).run P w ≠ .ok (.enter f args) w' := by
  intro h
  have : (do pure (Next.value (← s)) : Sem Next).run P w = (s.run P w).andThen fun a w' => .ok (.value a) w' := by
    simp [Result.andThen]
  rw [this] at h
  cases hs : s.run P w with
  | ok a w1 => rw [hs] at h; simp [Result.andThen] at h
  | halt x w1 => rw [hs] at h; simp [Result.andThen] at h
theorem noEnter {P : Program} {o : Oper} (he : easy o = true) (ρ : Operand → Value) (w w' : World) (f : FuncId) (args : Array Value) : (execOp ρ o).run P w ≠ .ok (.enter f args) w' := by
  obtain ⟨dst, op, type, pos, after, guard⟩ := o
  cases op <;> simp only [easy, Bool.false_eq_true] at he
  case move x => intro h; simp [execOp] at h
  case assign x => intro h; simp [execOp] at h
  case pick c a b =>
    intro h
    have : (execOp ρ ⟨dst, .pick c a b, type, pos, after, guard⟩).run P w = ((asBool (ρ c)).run P w).andThen fun q w' => .ok (.value (if q then ρ a else ρ b)) w' := by
      simp [execOp, Result.andThen]
    rw [this] at h
    cases hs : (asBool (ρ c)).run P w with
    | ok a w1 => rw [hs] at h; simp [Result.andThen] at h
    | halt x w1 => rw [hs] at h; simp [Result.andThen] at h
  case load t a => exact pureVal_run _ _ _ _ _
  case fieldAddr => exact pureVal_run _ _ _ _ _
  case indexAddr => exact pureVal_run _ _ _ _ _
  case index => exact pureVal_run _ _ _ _ _
  case field => exact pureVal_run _ _ _ _ _
  case extract => exact pureVal_run _ _ _ _ _
  case binOp => exact pureVal_run _ _ _ _ _
  case unOp => exact pureVal_run _ _ _ _ _
  case convert => exact pureVal_run _ _ _ _ _
  case slice => exact pureVal_run _ _ _ _ _
  case build => exact pureVal_run _ _ _ _ _
  case call c =>
    obtain ⟨callee, args', tys⟩ := c
    cases callee with
    | value x => simp at he
    | invoke r m => simp at he
    | builtin b =>
      cases b <;> simp at he
      intro h
      simp [execOp, resolve, invoke, builtin] at h
      cases hs : (Builtin.len_ tys type (Array.map ρ args')).run P w with
      | ok a w1 => rw [hs] at h; simp [Result.andThen] at h
      | halt x w1 => rw [hs] at h; simp [Result.andThen] at h
section
variable {P : Program} {ops : Array Oper} {Vs : Nat → Option (Value → World → Prop)} {w : World} {Q : Act → World → Prop}
theorem wpStab_quiet {o : Oper} {rest : List Oper} {k : Nat} {a : Act} {E : Env} (he : easy o = true) (hw : Region.wanted o (yielded ops a.tmps) = true) (hV : Vs k = none)
    (h : ∀ K : Act → Prop, (∀ a, wpStab P ops Grow Vs (fun w' => Grow w.drew w') Q rest (k + 1) a E → K a) → o.quiet P a (fun w' => ∃ x, w' = later w x) K) :
    wpStab P ops Grow Vs (fun w' => Grow w.drew w') Q (o :: rest) k a E := by
  unfold wpStab
  rw [if_pos hw]
  unfold does
  rw [hV]
  obtain ⟨v, h1, h2⟩ := h _ (fun _ h => h)
  refine ⟨v, fun w' hc => ?_, h2⟩
  have h3 := h1 w' ⟨⟨w', drew_grow hc.1⟩, rfl⟩
  unfold Oper.quietAt at h3
  unfold valAt
  have hne := noEnter (P := P) he a.eval w'
  generalize (execOp a.eval o).run P w' = r at *
  cases r with
  | ok n w2 =>
    cases n <;> simp only [Oper.quietUpon] at h3 <;> simp only [valUpon]
    case value u => exact ⟨h3.2, by rw [h3.1]; exact Ext.refl _ _⟩
    case skip => exact ⟨h3.2, by rw [h3.1]; exact Ext.refl _ _⟩
    case enter f args => exact absurd rfl (hne w2 f args)
  | halt x w2 => simp only [Oper.quietUpon] at h3
end
end Go.Proofs.Ytgfnmhfdmmnaoaa
namespace Go.Proofs.Ytgfnmhfdmmnaoaa
open Go.RowKit
theorem addr_add (b o j : Nat) : (⟨b, o, Option.none⟩ : Addr).add j = ⟨b, o + j, Option.none⟩ := by unfold Addr.add; split <;> simp_all
end Go.Proofs.Ytgfnmhfdmmnaoaa
namespace Go.Proofs.Ytgfnmhfdmmnaoaa
open Go Go.RowKit
def NCells (w : World) (S : Nat → Prop) : List Nd → List Value → Prop
  | [], cs => cs = []
  | n :: l, cs => ∃ na nc ka kc cs', cs = nodeL n na nc ka kc ++ cs' ∧ NodeC w S n na nc ka kc ∧ NCells w S l cs'
theorem NCells.len {w : World} {S : Nat → Prop} : ∀ {l : List Nd} {cs : List Value}, NCells w S l cs → cs.length = l.length * 5
  | [], cs, h => by cases h; rfl
  | n :: l, cs, h => by
    obtain ⟨na, nc, ka, kc, cs', rfl, _, h⟩ := h
    rw [List.length_append, NCells.len h]; simp [nodeL, Nat.succ_mul]; omega
theorem NCells.append {w : World} {S : Nat → Prop} : ∀ {l m : List Nd} {cs ds : List Value}, NCells w S l cs → NCells w S m ds → NCells w S (l ++ m) (cs ++ ds)
  | [], m, cs, ds, h, k => by cases h; exact k
  | n :: l, m, cs, ds, h, k => by
    obtain ⟨na, nc, ka, kc, cs', rfl, hn, h⟩ := h
    exact ⟨na, nc, ka, kc, cs' ++ ds, by simp, hn, NCells.append h k⟩
theorem NCells.ext {X S : Nat → Prop} {w w' : World} (he : Ext X w w') (hS : ∀ k, S k → ¬ X k) : ∀ {l : List Nd} {cs : List Value}, NCells w S l cs → NCells w' S l cs
  | [], cs, h => h
  | n :: l, cs, h => by
    obtain ⟨na, nc, ka, kc, cs', rfl, hn, h⟩ := h
    exact ⟨na, nc, ka, kc, cs', rfl, hn.ext he hS, NCells.ext he hS h⟩
theorem NCells.mono {S T : Nat → Prop} {w : World} (hS : ∀ k, S k → T k) : ∀ {l : List Nd} {cs : List Value}, NCells w S l cs → NCells w T l cs
  | [], cs, h => h
  | n :: l, cs, h => by
    obtain ⟨na, nc, ka, kc, cs', rfl, hn, h⟩ := h
    exact ⟨na, nc, ka, kc, cs', rfl, hn.mono hS, NCells.mono hS h⟩
theorem NCells.one {w : World} {S : Nat → Prop} {n : Nd} {na : Option Addr} {nc : Nat} {ka : Option Addr} {kc : Nat} (h : NodeC w S n na nc ka kc) : NCells w S [n] (nodeL n na nc ka kc) :=
  ⟨na, nc, ka, kc, [], by simp, h, rfl⟩
theorem NCells.kids {w : World} {S : Nat → Prop} {b : Nat} : ∀ {l : List Nd} {cs : List Value} {o : Nat}, NCells w S l cs → (∀ i v, cs[i]? = some v → w.cell? ⟨b, o + i, none⟩ = some v) → KidsR w S b o l
  | [], _, _, _, _ => by unfold KidsR; trivial
  | n :: l, cs, o, h, hc => by
    obtain ⟨na, nc, ka, kc, cs', rfl, hn, h⟩ := h
    unfold KidsR
    refine ⟨⟨na, nc, ka, kc, hc 0 _ rfl, hc 1 _ rfl, hc 2 _ rfl, hc 3 _ rfl, hc 4 _ rfl, hn⟩, NCells.kids h (fun i v hi => ?_)⟩
    have := hc (5 + i) v (by rw [List.getElem?_append_right (by simp [nodeL])]; simpa [nodeL] using hi)
    rw [show o + (5 + i) = o + 5 + i by omega] at this
    exact this
theorem KidsR.cells {w : World} {S : Nat → Prop} {b : Nat} : ∀ {l : List Nd} {o : Nat}, KidsR w S b o l → ∃ cs, NCells w S l cs ∧ ∀ i v, cs[i]? = some v → w.cell? ⟨b, o + i, none⟩ = some v
  | [], _, _ => ⟨[], rfl, fun i v h => by simp at h⟩
  | n :: l, o, h => by
    unfold KidsR at h
    obtain ⟨⟨na, nc, ka, kc, c0, c1, c2, c3, c4, hn⟩, hr⟩ := h
    obtain ⟨cs, h1, h2⟩ := hr.cells
    refine ⟨nodeL n na nc ka kc ++ cs, ⟨na, nc, ka, kc, cs, rfl, hn, h1⟩, fun i v hi => ?_⟩
    match i, hi with
    | 0, hi => simp [nodeL] at hi; subst hi; exact c0
    | 1, hi => simp [nodeL] at hi; subst hi; exact c1
    | 2, hi => simp [nodeL] at hi; subst hi; exact c2
    | 3, hi => simp [nodeL] at hi; subst hi; exact c3
    | 4, hi => simp [nodeL] at hi; subst hi; exact c4
    | i + 5, hi =>
      have := h2 i v (by simpa [nodeL] using hi)
      rw [show o + (i + 5) = o + 5 + i by omega]
      exact this
end Go.Proofs.Ytgfnmhfdmmnaoaa
namespace Go.Proofs.Ytgfnmhfdmmnaoaa
open Go Go.RowKit
def Src (w : World) (y : Option Addr) (m : Nat) (news : List Value) : Prop := (m = 0 ∧ news = []) ∨ ∃ ad, y = some ad ∧ ∀ j u, news[j]? = some u → w.cell? (ad.add j) = some u
theorem Src.grow {w w' : World} {y : Option Addr} {m : Nat} {news : List Value} (h : Src w y m news) (hg : Grow w w') : Src w' y m news :=
  h.imp id (fun ⟨ad, hy, hc⟩ => ⟨ad, hy, fun j u hj => hg.some (hc j u hj)⟩)
def offRow (B : Nat) (v : Value) (k : Nat) : Prop := B ≤ k ∧ v.ownBlock ≠ some k
theorem grownBy_ext {w w' : World} {v : Value} (h : w.grownBy w' v.ownBlock) : Ext (fun k => v.ownBlock = some k) w w' :=
  ⟨h.os, h.tape, h.output, h.size, fun k hk hx => h.block k hk (fun e => hx e.symm)⟩
theorem NCells.grown {w w' : World} {B : Nat} {v v' : Value} {l : List Nd} {cs : List Value} (hlt : NCells w (fun k => offRow B v k ∧ k < w.heap.size) l cs) (hg : w.grownBy w' v.ownBlock) (hv : v'.ownBlock = v.ownBlock ∨ v'.ownBlock = some w.heap.size) :
    NCells w' (offRow B v') l cs := by
  have h1 := hlt.ext (grownBy_ext hg) (fun k hk hx => hk.1.2 hx)
  refine h1.mono (fun k hk => ⟨hk.1.1, fun e => ?_⟩)
  rcases hv with hv | hv
  · rw [hv] at e; exact hk.1.2 e
  · rw [hv] at e; cases e; exact Nat.lt_irrefl _ hk.2
theorem StrsR.lt {S : Nat → Prop} {w : World} {a : Option Addr} {c : Nat} {xs : List ByteArray} (h : StrsR w S a c xs) : StrsR w (fun k => S k ∧ k < w.heap.size) a c xs := by
  obtain ⟨h1, h2, h3, h4⟩ := h
  refine ⟨h1, h2, h3, ?_⟩
  rcases Nat.eq_zero_or_pos xs.length with hl | hl
  · exact .inl (List.length_eq_zero_iff.1 hl)
  rcases h4 with h4 | ⟨b, o, rfl, hb, hc⟩
  · exact .inl h4
  · exact .inr ⟨b, o, rfl, ⟨hb, lt_of_cell (hc 0 hl)⟩, hc⟩
mutual
theorem NodeC.lt {S : Nat → Prop} {w : World} : ∀ {n : Nd} {na : Option Addr} {nc : Nat} {ka : Option Addr} {kc : Nat}, NodeC w S n na nc ka kc → NodeC w (fun k => S k ∧ k < w.heap.size) n na nc ka kc
  | ⟨_, _, _, _, kids⟩, na, nc, ka, kc, h => by
    unfold NodeC at h ⊢
    obtain ⟨h1, h2, h3, h4, h5⟩ := h
    refine ⟨h1, h2.lt, h3, h4, ?_⟩
    rcases h5 with h5 | ⟨b, o, rfl, hb, hk⟩
    · exact .inl h5
    · cases kids with
      | nil => exact .inl rfl
      | cons k ks =>
        refine .inr ⟨b, o, rfl, ⟨hb, ?_⟩, KidsR.lt hk⟩
        unfold KidsR at hk
        obtain ⟨⟨_, _, _, _, c0, _⟩, _⟩ := hk
        exact lt_of_cell c0
theorem KidsR.lt {S : Nat → Prop} {w : World} {b : Nat} : ∀ {l : List Nd} {o : Nat}, KidsR w S b o l → KidsR w (fun k => S k ∧ k < w.heap.size) b o l
  | [], _, _ => by unfold KidsR; trivial
  | k :: ks, o, h => by
    unfold KidsR at h ⊢
    obtain ⟨⟨na, nc, ka, kc, c0, c1, c2, c3, c4, hn⟩, hr⟩ := h
    exact ⟨⟨na, nc, ka, kc, c0, c1, c2, c3, c4, hn.lt⟩, KidsR.lt hr⟩
end
theorem NCells.lt {S : Nat → Prop} {w : World} : ∀ {l : List Nd} {cs : List Value}, NCells w S l cs → NCells w (fun k => S k ∧ k < w.heap.size) l cs
  | [], cs, h => h
  | n :: l, cs, h => by
    obtain ⟨na, nc, ka, kc, cs', rfl, hn, h⟩ := h
    exact ⟨na, nc, ka, kc, cs', rfl, hn.lt, NCells.lt h⟩
theorem BoxN.grown {w w' : World} {b : Nat} {cs : List Value} {v : Value} (h : BoxN w b cs) (hg : w.grownBy w' v.ownBlock) (hb : ∀ k, v.ownBlock = some k → b < k) : BoxN w' b cs :=
  h.ext (grownBy_ext hg) (fun e => by have := hb _ e; omega)
end Go.Proofs.Ytgfnmhfdmmnaoaa
namespace Go.Proofs.Ytgfnmhfdmmnaoaa
open Go Go.RowKit
theorem Grow.toX' {X : Nat → Prop} {w w' : World} (h : Grow w w') : Ext X w w' := h.mono (fun _ h => False.elim h)
theorem Free.app2 {B : Nat} {w : World} {f g : List Nat} (hf : Free B w f) (hg : Free B w g) (hd : ∀ a, a ∈ f → a ∈ g → False) : Free B w (f ++ g) :=
  ⟨List.nodup_append.2 ⟨hf.1, hg.1, fun a ha b hb e => by subst e; exact hd a ha hb⟩, fun b hb => by
    rcases List.mem_append.1 hb with h | h
    · exact hf.2 b h
    · exact hg.2 b h⟩
def nodeRep : Rep Nd where
  n := 5
  R := fun w S x cs => ∃ na nc ka kc, cs = nodeL x na nc ka kc ∧ NodeC w S x na nc ka kc
  F := fun w x cs fp => ∃ na nc ka kc, cs = nodeL x na nc ka kc ∧ NodeF w x na nc ka kc fp
  rlen := by rintro w S x cs ⟨na, nc, ka, kc, rfl, _⟩; rfl
  flen := by rintro w x cs fp ⟨na, nc, ka, kc, rfl, _⟩; rfl
  ext := by rintro X S w w' x cs h hS ⟨na, nc, ka, kc, rfl, hn⟩; exact ⟨na, nc, ka, kc, rfl, hn.ext h hS⟩
  mono := by rintro S T w x cs h ⟨na, nc, ka, kc, rfl, hn⟩; exact ⟨na, nc, ka, kc, rfl, hn.mono h⟩
  lt := by rintro S w x cs ⟨na, nc, ka, kc, rfl, hn⟩; exact ⟨na, nc, ka, kc, rfl, hn.lt⟩
  keep := by rintro w w' x cs fp ⟨na, nc, ka, kc, rfl, hn⟩ h; exact ⟨na, nc, ka, kc, rfl, hn.keep h⟩
  toR := by rintro S w x cs fp ⟨na, nc, ka, kc, rfl, hn⟩ h; exact ⟨na, nc, ka, kc, rfl, hn.toC h⟩
end Go.Proofs.Ytgfnmhfdmmnaoaa
namespace Go.Proofs.Ytgfnmhfdmmnaoaa
open Go Go.RowKit
section rows
variable {α : Type} {E : Rep α}
end rows
theorem NodesF.keep' {w w' : World} {a : Option Addr} {c : Nat} {l : List Nd} {fp : List Nat} (hs : NodesF w a c l fp) (h : ∀ b ∈ fp, ∀ o, w'.cell? ⟨b, o, none⟩ = w.cell? ⟨b, o, none⟩) : NodesF w' a c l fp := hs.keep h
end Go.Proofs.Ytgfnmhfdmmnaoaa
namespace Go.Proofs.Ytgfnmhfdmmnaoaa
open Go.RowKit
theorem markNode_ok (n : Nd) (na : Option Addr) (nc : Nat) (ka : Option Addr) (kc : Nat) (fp : List Nat) (B k : Nat) (i : Int) (w : World) (hi : i = (k : Int)) (hF : NodeF w n na nc ka kc fp) (hfr : Free B w fp) (h1 : 0 < k) (h2 : k + cntT n ≤ 1000000000) :
    Calls Try.prog 26 #[nodeV n na nc ka kc, .int .i64 i] w fun e w' => e = .returned (.int .i64 ((k + cntT n : Nat) : Int)) ∧ Ext (inl fp) w w' ∧ Free B w' fp ∧ NodeF w' (mkT k n) na nc ka kc fp := by
  subst hi
  obtain ⟨f1, f2, rfl, htx, hs, hk⟩ := hF.parts
  have hct : cntT n = n.names.length + cntL n.kids := rfl
  have hnd := List.nodup_append.1 hfr.1
  have hf1 : Free B w f1 := ⟨hnd.1, fun y hy => hfr.2 y (by simp [hy])⟩
  have hf2 : Free B w f2 := ⟨hnd.2.1, fun y hy => hfr.2 y (by simp [hy])⟩
  have hd : ∀ y, y ∈ f1 → y ∈ f2 → False := fun y h1 h2 => hnd.2.2 y h1 y h2 rfl
  have Hct := Lib.hid hct
  have Hs := Lib.hid hs
  have Hk := Lib.hid hk
  have Htx := Lib.hid htx
  have Hf1 := Lib.hid hf1
  have Hf2 := Lib.hid hf2
  have Hd := Lib.hid hd
  have Hfr := Lib.hid hfr
  clear hct hs hk htx hf1 hf2 hd hnd hF hfr
  unfold nodeV
  go_enter Try.func26, Try.ntmps26
  go_wp2_with fail
  have hga : Grow w (w.alloc (.cells #[.int .i64 n.kind, .int .i64 n.num, .string n.text, .slice na n.names.length nc, .slice ka n.kids.length kc] 30)) := (Ext.refl nil w).alloc _
  have hB0 := BoxN.new w (nodeL n na nc ka kc) 30
  have hlt : ∀ y ∈ f1 ++ f2, y < w.heap.size := fun y hy => (Hfr.out.2 y hy).2.1
  have Hlt := Lib.hid hlt
  have HB0 := Lib.hid hB0
  clear hlt hB0
  refine (markStringS_i na nc n.names f1 B k _ _ rfl (Hs.out.keep (hga.keeps Hf1.out (fun _ _ h => h))) (Hf1.out.ext hga (fun _ _ h => h)) (by omega) (by have := Hct.out; omega)).mono ?_
  rintro e w2 ⟨rfl, hx2, hfr2, hF2⟩
  have B2 := HB0.out.ext hx2 (fun h => by have := Hlt.out _ (List.mem_append_left f2 h); omega)
  have p4 := B2.cell 4 _ rfl
  have hk2 := Hk.out.keep' (w' := w2) (fun y hy o => by rw [hx2.cell (p := ⟨y, o, none⟩) (by have := Hlt.out y (by simp [hy]); simp; omega) (fun h => Hd.out y h hy)]; exact hga.cell (p := ⟨y, o, none⟩) (Hlt.out y (by simp [hy])) (fun h => h))
  have hf22 := (Hf2.out.ext hga (fun _ _ h => h)).ext hx2 (fun y hy h => Hd.out y h hy)
  have Hx2 := Lib.hid (hga.toX'.trans (hx2.mono (Y := inl (f1 ++ f2)) (fun y hy => List.mem_append_left f2 hy)))
  have Hk2 := Lib.hid hk2
  have Hf22 := Lib.hid hf22
  have Hfr2 := Lib.hid hfr2
  have HF2 := Lib.hid hF2
  clear hx2 hfr2 hF2 hk2 hf22 B2 hga
  go_wp2_with fail
  refine (markNodeS_ok n.kids ka kc f2 B (k + n.names.length) _ _ (by omega) Hk2.out Hf22.out (by omega) (by have := Hct.out; omega)).mono ?_
  rintro e w3 ⟨rfl, hx3, hfr3, hF3⟩
  have hs3 := HF2.out.keep (w' := w3) (fun y hy o => hx3.cell (p := ⟨y, o, none⟩) (Hfr2.out.2 y hy).2.1 (fun h => Hd.out y hy h))
  have hfr13 := Hfr2.out.ext hx3 (fun y hy h => Hd.out y hy h)
  have Hres : Hid (Ext (inl (f1 ++ f2)) w w3 ∧ Free B w3 (f1 ++ f2) ∧ NodeF w3 (mkT k n) na nc ka kc (f1 ++ f2)) := Lib.hid ⟨Hx2.out.trans (hx3.mono (fun y hy => List.mem_append_right f1 hy)), hfr13.app2 hfr3 Hd.out, by
    unfold mkT NodeF
    obtain ⟨q1, q2, q3⟩ := hF3
    refine ⟨f1, f2, rfl, Htx.out, hs3, q1, q2, ?_⟩
    rcases q3 with ⟨h, h'⟩ | ⟨b, o, f3, q4, q5, q6, q7⟩
    · exact .inl ⟨h, h'⟩
    · exact .inr ⟨b, o, f3, q4, q5, q6, q7⟩⟩
  clear hx3 hfr3 hF3 hs3 hfr13
  go_wp2_with fail
  go_ret
  exact ⟨by rw [Hct.out]; simp; omega, Hres.out⟩
theorem heldNode_ok (n : Nd) (na : Option Addr) (nc : Nat) (ka : Option Addr) (kc : Nat) (k : Nat) (i : Int) (w : World) (hi : i = (k : Int)) (hn : NodeR w any (mkT k n) (nodeV (mkT k n) na nc ka kc)) (h1 : 0 < k) (h2 : k + cntT n ≤ 1000000000) :
    Calls Try.prog 27 #[nodeV (mkT k n) na nc ka kc, .int .i64 i] w fun e w' => e = .returned (.int .i64 ((k + cntT n : Nat) : Int)) ∧ Grow w w' := by
  subst hi
  obtain ⟨a1, c1, a2, c2, he, hc⟩ := hn
  obtain ⟨_, hs, hk⟩ := hc.parts
  have hct : cntT n = n.names.length + cntL n.kids := rfl
  simp only [nodeV, Value.agg.injEq, Array.mk.injEq, List.cons.injEq, Value.slice.injEq, true_and, and_true] at he
  obtain ⟨⟨rfl, rfl⟩, rfl, rfl⟩ := he
  unfold mkT at hs hk
  simp only at hs hk
  have Hct := Lib.hid hct
  have Hs := Lib.hid hs
  have Hk := Lib.hid hk
  clear hct hs hk hc
  have hl : (mkL (k + n.names.length) n.kids).length = n.kids.length := mkL_len _ _
  unfold nodeV mkT
  simp only [mkS_len, hl]
  go_enter Try.func27, Try.ntmps27
  go_wp2_with fail
  refine (heldStringS_i na nc n.names.length k _ _ rfl (Hs.out.grow (by repeat (first | with_reducible exact Ext.refl _ _ | with_reducible refine Ext.trans ?_ (by assumption) | with_reducible refine Ext.drew ?_ | with_reducible refine Ext.drewN ?_ _ | with_reducible refine Ext.alloc ?_ _ | with_reducible refine Ext.setNew ?_ (by simp; done) _ | with_reducible refine Ext.setNew ?_ (by simp; omega) _))) (by omega) (by have := Hct.out; omega)).mono ?_
  rintro e w2 ⟨rfl, hg2⟩
  have hcc := bcell hg2
  go_wp2_with fail
  have hh := heldNodeS_ok n.kids ka kc (k + n.names.length) ((k + n.names.length : Nat) : Int) w2 rfl (Hk.out.grow (by repeat (first | with_reducible exact Ext.refl _ _ | with_reducible refine Ext.trans ?_ (by assumption) | with_reducible refine Ext.drew ?_ | with_reducible refine Ext.drewN ?_ _ | with_reducible refine Ext.alloc ?_ _ | with_reducible refine Ext.setNew ?_ (by simp; done) _ | with_reducible refine Ext.setNew ?_ (by simp; omega) _))) (by omega) (by have := Hct.out; omega)
  refine hh.mono ?_
  rintro e w3 ⟨rfl, hg3⟩
  go_wp2_with fail
  go_ret
  exact ⟨by rw [Hct.out]; simp; omega, (by repeat (first | with_reducible exact Ext.refl _ _ | with_reducible refine Ext.trans ?_ (by assumption) | with_reducible refine Ext.drew ?_ | with_reducible refine Ext.drewN ?_ _ | with_reducible refine Ext.alloc ?_ _ | with_reducible refine Ext.setNew ?_ (by simp; done) _ | with_reducible refine Ext.setNew ?_ (by simp; omega) _))⟩
end Go.Proofs.Ytgfnmhfdmmnaoaa
namespace Go.Proofs.Ytgfnmhfdmmnaoaa
open Go.RowKit
abbrev Ent := Nd × ByteArray
end Go.Proofs.Ytgfnmhfdmmnaoaa
namespace Go.Proofs.Ytgfnmhfdmmnaoaa
open Go.RowKit
end Go.Proofs.Ytgfnmhfdmmnaoaa
namespace Go.Proofs.Ytgfnmhfdmmnaoaa
open Go.RowKit
end Go.Proofs.Ytgfnmhfdmmnaoaa
namespace Go.Proofs.Ytgfnmhfdmmnaoaa
open Go.RowKit
def sgnI (a b : Int) : Int := if a < b then -1 else if b < a then 1 else 0
def sgnT (a b : ByteArray) : Int := if lt a b then -1 else if lt b a then 1 else 0
theorem sgnI_refl (a : Int) : sgnI a a = 0 := by simp [sgnI]
theorem sgnI_zero {a b : Int} : sgnI a b = 0 ↔ a = b := by
  unfold sgnI
  by_cases h1 : a < b
  · simp [h1]; omega
  · by_cases h2 : b < a
    · simp [h1, h2]; omega
    · simp [h1, h2]; omega
theorem sgnT_refl (a : ByteArray) : sgnT a a = 0 := by simp [sgnT, lt_irr]
theorem sgnT_zero {a b : ByteArray} : sgnT a b = 0 ↔ a = b := by
  rcases bl_cases a b with ⟨h1, h2, _, _, h3⟩ | ⟨h1, h2, _, _, h3⟩ | h
  · simp [sgnT, lt, h1, h3]
  · simp [sgnT, lt, h1, h2, h3]
  · subst h; simp [sgnT_refl]
theorem compareBytes_bl : ∀ a b : List UInt8, Lib.compareBytes a b = if Op.bytesLess a b then -1 else if Op.bytesLess b a then 1 else 0
  | [], [] => rfl
  | [], _ :: _ => rfl
  | _ :: _, [] => rfl
  | x :: a, y :: b => by
    have ih := compareBytes_bl a b
    simp only [Lib.compareBytes, Op.bytesLess]
    rcases (show x.toNat < y.toNat ∨ x.toNat = y.toNat ∨ y.toNat < x.toNat from by omega) with h | h | h
    · have h1 : x < y := UInt8.lt_iff_toNat_lt.2 h
      simp [h1]
    · have h3 : x = y := UInt8.toNat_inj.1 h
      subst h3
      have h1 : ¬ x < x := fun h' => by have := UInt8.lt_iff_toNat_lt.1 h'; omega
      simp [h1, ih]
    · have h1 : y < x := UInt8.lt_iff_toNat_lt.2 h
      have h2 : ¬ x < y := fun h' => by have := UInt8.lt_iff_toNat_lt.1 h'; omega
      have h3 : ¬ x = y := fun e => by subst e; omega
      simp [h1, h2, h3]
theorem run_cmpstring (a b : ByteArray) (w : World) :
    (callFunc 192 #[.string a, .string b]).run Try.prog w = .ok (.value (.int .i64 (sgnT a b))) w := by
  rw [run_callFunc_extern (P := Try.prog) (f := 192) (fn := Try.f192) (e := Extern.BytealgCompare.compare) (by kernel_rfl) (by kernel_rfl) (by kernel_rfl) (by kernel_rfl) (by kernel_rfl)]
  rw [Lib.run_compareString, compareBytes_bl]
  simp only [← ByteArray.toList_eq]
  rfl
theorem stringsCompare_ok (a b : ByteArray) (w : World) : Calls Try.prog 154 #[.string a, .string b] w fun e w' => e = .returned (.int .i64 (sgnT a b)) ∧ w' = w := by
  have hx := run_cmpstring a b w
  have h2 : Calls Try.prog 180 #[.string a, .string b] w fun e w' => e = .returned (.int .i64 (sgnT a b)) ∧ w' = w := by
    go_enter Try.func180, Try.ntmps180
    go_wp2
    go_ret
    exact ⟨by simp, rfl⟩
  clear hx
  go_enter Try.func154, Try.ntmps154
  go_wp2_with fail
  refine h2.mono ?_
  rintro e w' ⟨rfl, rfl⟩
  go_wp2_with fail
  go_ret
  exact ⟨by simp, rfl⟩
theorem cmpIsNaNInt_ok (s : Int) (w : World) : Calls Try.prog 202 #[.int .i64 s] w fun e w' => e = .returned (.bool false) ∧ w' = w := by
  go_enter Try.func202, Try.ntmps202
  go_wp2
  go_ret
  exact ⟨by simp, rfl⟩
theorem cmpCompare_ok (a b : Int) (w : World) : Calls Try.prog 198 #[.int .i64 a, .int .i64 b] w fun e w' => e = .returned (.int .i64 (sgnI a b)) ∧ w' = w := by
  rcases (show a < b ∨ b < a ∨ a = b by omega) with h | h | h
  · have Hf : Hid (sgnI a b = -1) := Lib.hid (by simp [sgnI, h])
    go_enter Try.func198, Try.ntmps198
    go_wp2_with (go_at_call 202; refine (cmpIsNaNInt_ok _ _).mono ?_; rintro e w' ⟨rfl, rfl⟩)
    go_ret
    exact ⟨by simp [Hf.out], rfl⟩
  · have Hf : Hid (sgnI a b = 1) := Lib.hid (by have : ¬ a < b := by omega
                                                simp [sgnI, h, this])
    go_enter Try.func198, Try.ntmps198
    go_wp2_with (go_at_call 202; refine (cmpIsNaNInt_ok _ _).mono ?_; rintro e w' ⟨rfl, rfl⟩)
    go_ret
    exact ⟨by simp [Hf.out], rfl⟩
  · subst h
    have Hf : Hid (sgnI a a = 0) := Lib.hid (sgnI_refl a)
    go_enter Try.func198, Try.ntmps198
    go_wp2_with (go_at_call 202; refine (cmpIsNaNInt_ok _ _).mono ?_; rintro e w' ⟨rfl, rfl⟩)
    go_ret
    exact ⟨by simp [Hf.out], rfl⟩
theorem toInt_ok (b : Bool) (w : World) : Calls Try.prog 191 #[.bool b] w fun e w' => e = .returned (.int .i64 (if b then 1 else 0)) ∧ w' = w := by
  cases b
  all_goals
    go_enter Try.func191, Try.ntmps191
    go_wp2
    go_ret
    exact ⟨by simp, rfl⟩
theorem order_ok (a b : Int) (w : World) : Calls Try.prog 176 #[.int .i64 a, .int .i64 b] w fun e w' => e = .returned (.int .i64 (sgnI a b)) ∧ w' = w := by
  rcases (show a < b ∨ b < a ∨ a = b by omega) with h | h | h
  · have Hf : Hid (sgnI a b = -1) := Lib.hid (by simp [sgnI, h])
    have h1 : (decide (b < a)) = false := by simp; omega
    have h2 : (decide (a < b)) = true := by simp; omega
    go_enter Try.func176, Try.ntmps176
    go_wp2_with (go_at_call 191; refine (toInt_ok _ _).mono ?_; rintro e w' ⟨rfl, rfl⟩)
    go_ret
    exact ⟨by simp [Hf.out], rfl⟩
  · have Hf : Hid (sgnI a b = 1) := Lib.hid (by have : ¬ a < b := by omega
                                                simp [sgnI, h, this])
    have h1 : (decide (b < a)) = true := by simp; omega
    have h2 : (decide (a < b)) = false := by simp; omega
    go_enter Try.func176, Try.ntmps176
    go_wp2_with (go_at_call 191; refine (toInt_ok _ _).mono ?_; rintro e w' ⟨rfl, rfl⟩)
    go_ret
    exact ⟨by simp [Hf.out], rfl⟩
  · subst h
    have Hf : Hid (sgnI a a = 0) := Lib.hid (sgnI_refl a)
    have h1 : (decide (a < a)) = false := by simp
    go_enter Try.func176, Try.ntmps176
    go_wp2_with (go_at_call 191; refine (toInt_ok _ _).mono ?_; rintro e w' ⟨rfl, rfl⟩)
    go_ret
    exact ⟨by simp [Hf.out], rfl⟩
theorem orderText_ok (a b : ByteArray) (w : World) : Calls Try.prog 177 #[.string a, .string b] w fun e w' => e = .returned (.int .i64 (sgnT a b)) ∧ w' = w := by
  rcases bl_cases a b with ⟨l1, l2, l3, l4, hne⟩ | ⟨l1, l2, l3, l4, hne⟩ | l0
  · have Hf : Hid (sgnT a b = -1) := Lib.hid (by simp [sgnT, lt, l1])
    clear hne
    go_enter Try.func177, Try.ntmps177
    go_wp2_with (go_at_call 191; refine (toInt_ok _ _).mono ?_; rintro e w' ⟨rfl, rfl⟩)
    go_ret
    exact ⟨by simp [Hf.out], rfl⟩
  · have Hf : Hid (sgnT a b = 1) := Lib.hid (by simp [sgnT, lt, l1, l2])
    clear hne
    go_enter Try.func177, Try.ntmps177
    go_wp2_with (go_at_call 191; refine (toInt_ok _ _).mono ?_; rintro e w' ⟨rfl, rfl⟩)
    go_ret
    exact ⟨by simp [Hf.out], rfl⟩
  · subst l0
    have l1 := blF_irrefl a
    have l3 : (a.toList == a.toList) = true := by simp
    have Hf : Hid (sgnT a a = 0) := Lib.hid (sgnT_refl a)
    go_enter Try.func177, Try.ntmps177
    go_wp2_with (go_at_call 191; refine (toInt_ok _ _).mono ?_; rintro e w' ⟨rfl, rfl⟩)
    go_ret
    exact ⟨by simp [Hf.out], rfl⟩
end Go.Proofs.Ytgfnmhfdmmnaoaa
namespace Go.Proofs.Ytgfnmhfdmmnaoaa
open Go.RowKit
mutual
def cmpN : Nd → Nd → Int
  | ⟨kind, num, text, names, kids⟩, b =>
    if sgnI kind b.kind ≠ 0 then sgnI kind b.kind else if sgnI num b.num ≠ 0 then sgnI num b.num else if sgnT text b.text ≠ 0 then sgnT text b.text
    else cmpKs (decide (kind = 4)) names b.names kids b.kids
def cmpKs : Bool → List ByteArray → List ByteArray → List Nd → List Nd → Int
  | m, ns, ms, k :: ks, j :: js =>
    if m = true ∧ sgnT (ns.headD ⟨#[]⟩) (ms.headD ⟨#[]⟩) ≠ 0 then sgnT (ns.headD ⟨#[]⟩) (ms.headD ⟨#[]⟩) else if cmpN k j ≠ 0 then cmpN k j else cmpKs m ns.tail ms.tail ks js
  | _, _, _, [], js => sgnI 0 js.length
  | _, _, _, ks, [] => sgnI ks.length 0
end
theorem cmpN_eq (a b : Nd) : cmpN a b = if sgnI a.kind b.kind ≠ 0 then sgnI a.kind b.kind else if sgnI a.num b.num ≠ 0 then sgnI a.num b.num else if sgnT a.text b.text ≠ 0 then sgnT a.text b.text
    else cmpKs (decide (a.kind = 4)) a.names b.names a.kids b.kids := by cases a; simp [cmpN]
theorem headD_drop (l : List ByteArray) (k : Nat) (h : k < l.length) (d : ByteArray) : (l.drop k).headD d = l[k] := by
  rw [drop_cons _ _ h]; rfl
theorem cmpKs_map {ns ms : List ByteArray} {ks js : List Nd} {k : Nat} (h1 : k < ks.length) (h2 : k < js.length) (h3 : k < ns.length) (h4 : k < ms.length) :
    cmpKs true (ns.drop k) (ms.drop k) (ks.drop k) (js.drop k) = if sgnT ns[k] ms[k] ≠ 0 then sgnT ns[k] ms[k] else if cmpN ks[k] js[k] ≠ 0 then cmpN ks[k] js[k] else cmpKs true (ns.drop (k + 1)) (ms.drop (k + 1)) (ks.drop (k + 1)) (js.drop (k + 1)) := by
  rw [drop_cons _ _ h1, drop_cons _ _ h2, cmpKs, headD_drop _ _ h3, headD_drop _ _ h4]
  simp [List.tail_drop]
theorem cmpKs_list {ns ms : List ByteArray} {ks js : List Nd} {k : Nat} (h1 : k < ks.length) (h2 : k < js.length) :
    cmpKs false (ns.drop k) (ms.drop k) (ks.drop k) (js.drop k) = if cmpN ks[k] js[k] ≠ 0 then cmpN ks[k] js[k] else cmpKs false (ns.drop (k + 1)) (ms.drop (k + 1)) (ks.drop (k + 1)) (js.drop (k + 1)) := by
  rw [drop_cons _ _ h1, drop_cons _ _ h2, cmpKs]
  simp [List.tail_drop]
theorem cmpKs_end (m : Bool) (ns ms : List ByteArray) (ks js : List Nd) (k : Nat) (hk1 : k ≤ ks.length) (hk2 : k ≤ js.length) (h : ¬ (k < ks.length ∧ k < js.length)) :
    cmpKs m (ns.drop k) (ms.drop k) (ks.drop k) (js.drop k) = sgnI ks.length js.length := by
  by_cases h1 : k < ks.length
  · have h2 : k = js.length := by omega
    have e : js.drop k = [] := List.drop_eq_nil_of_le (by omega)
    rw [drop_cons _ _ h1, e, cmpKs]
    · simp only [List.length_cons, List.length_drop, sgnI]
      rw [if_neg (by omega), if_pos (by omega), if_neg (by omega), if_pos (by omega)]
    · intro h; simp at h; omega
  · have h2 : k = ks.length := by omega
    have e : ks.drop k = [] := List.drop_eq_nil_of_le (by omega)
    rw [e, cmpKs]
    simp only [List.length_drop, sgnI]
    by_cases h3 : k < js.length
    · rw [if_pos (by omega), if_pos (by omega)]
    · rw [if_neg (by omega), if_neg (by omega), if_neg (by omega), if_neg (by omega)]
def CmpIOk (a : Nd) : Prop := ∀ (b : Nd) (v u : Value) (w : World), Good a → Good b → NodeR w any a v → NodeR w any b u →
    Calls Try.prog 189 #[v, u] w fun e w' => e = .returned (.int .i64 (cmpN a b)) ∧ Grow w w'
def CmpSOk (a : Nd) : Prop := ∀ (b : Nd) (v u : Value) (w : World), Good a → Good b → NodeR w any a v → NodeR w any b u →
    Calls Try.prog 148 #[v, u] w fun e w' => e = .returned (.int .i64 (cmpN a b)) ∧ Grow w w'
theorem bne0 {c : Int} (h : c = 0) : (c != 0) = false := by simp [h]
theorem bne1 {c : Int} (h : ¬ c = 0) : (c != 0) = true := by simp [h]
theorem compareValid_of (a : Nd) (ih : ∀ k ∈ a.kids, CmpIOk k) : CmpIOk a := by
  intro b v u w hga hgb hv hu
  obtain ⟨na, nc, ka, kc, rfl, hc⟩ := hv
  obtain ⟨na2, nc2, ka2, kc2, rfl, hc2⟩ := hu
  obtain ⟨_, hns, hks⟩ := hc.parts
  obtain ⟨_, hns2, hks2⟩ := hc2.parts
  have l1 : a.kids.length ≤ 6 := hga.kids6
  have l2 : b.kids.length ≤ 6 := hgb.kids6
  have Hns := Lib.hid hns
  have Hks := Lib.hid hks
  have Hns2 := Lib.hid hns2
  have Hks2 := Lib.hid hks2
  have Hga := Lib.hid hga
  have Hgb := Lib.hid hgb
  have Ih := Lib.hid ih
  have Hf := Lib.hid (cmpN_eq a b)
  clear hc hc2 hns hks hns2 hks2 hga hgb ih
  unfold nodeV
  by_cases h1 : sgnI a.kind b.kind = 0
  rotate_left
  · have b1 := bne1 h1
    have Hff : Hid (cmpN a b = sgnI a.kind b.kind) := Lib.hid (by rw [Hf.out, if_pos h1])
    clear h1
    go_enter Try.func189, Try.ntmps189
    go_wp2_with fail
    refine (cmpCompare_ok _ _ _).mono ?_
    rintro e w' ⟨rfl, rfl⟩
    go_wp2_with fail
    go_ret
    exact ⟨by simp [Hff.out], (by repeat (first | with_reducible exact Ext.refl _ _ | with_reducible refine Ext.trans ?_ (by assumption) | with_reducible refine Ext.drew ?_ | with_reducible refine Ext.drewN ?_ _ | with_reducible refine Ext.alloc ?_ _ | with_reducible refine Ext.setNew ?_ (by simp; done) _ | with_reducible refine Ext.setNew ?_ (by simp; omega) _))⟩
  have b1 := bne0 h1
  by_cases h2 : sgnI a.num b.num = 0
  rotate_left
  · have b2 := bne1 h2
    have Hff : Hid (cmpN a b = sgnI a.num b.num) := Lib.hid (by rw [Hf.out, if_neg (by simpa using h1), if_pos h2])
    clear h1 h2
    go_enter Try.func189, Try.ntmps189
    go_wp2_with fail
    refine (cmpCompare_ok _ _ _).mono ?_
    rintro e w' ⟨rfl, rfl⟩
    go_wp2_with fail
    refine (cmpCompare_ok _ _ _).mono ?_
    rintro e w' ⟨rfl, rfl⟩
    go_wp2_with fail
    go_ret
    exact ⟨by simp [Hff.out], (by repeat (first | with_reducible exact Ext.refl _ _ | with_reducible refine Ext.trans ?_ (by assumption) | with_reducible refine Ext.drew ?_ | with_reducible refine Ext.drewN ?_ _ | with_reducible refine Ext.alloc ?_ _ | with_reducible refine Ext.setNew ?_ (by simp; done) _ | with_reducible refine Ext.setNew ?_ (by simp; omega) _))⟩
  have b2 := bne0 h2
  by_cases h3 : sgnT a.text b.text = 0
  rotate_left
  · have b3 := bne1 h3
    have Hff : Hid (cmpN a b = sgnT a.text b.text) := Lib.hid (by rw [Hf.out, if_neg (by simpa using h1), if_neg (by simpa using h2), if_pos h3])
    clear h1 h2 h3
    go_enter Try.func189, Try.ntmps189
    go_wp2_with fail
    refine (cmpCompare_ok _ _ _).mono ?_
    rintro e w' ⟨rfl, rfl⟩
    go_wp2_with fail
    refine (cmpCompare_ok _ _ _).mono ?_
    rintro e w' ⟨rfl, rfl⟩
    go_wp2_with fail
    refine (stringsCompare_ok _ _ _).mono ?_
    rintro e w' ⟨rfl, rfl⟩
    go_wp2_with fail
    go_ret
    exact ⟨by simp [Hff.out], (by repeat (first | with_reducible exact Ext.refl _ _ | with_reducible refine Ext.trans ?_ (by assumption) | with_reducible refine Ext.drew ?_ | with_reducible refine Ext.drewN ?_ _ | with_reducible refine Ext.alloc ?_ _ | with_reducible refine Ext.setNew ?_ (by simp; done) _ | with_reducible refine Ext.setNew ?_ (by simp; omega) _))⟩
  have b3 := bne0 h3
  have hkk : a.kind = b.kind := sgnI_zero.1 h1
  have Hkk := Lib.hid hkk
  have Hff : Hid (cmpN a b = cmpKs (decide (a.kind = 4)) a.names b.names a.kids b.kids) := Lib.hid (by rw [Hf.out, if_neg (by simpa using h1), if_neg (by simpa using h2), if_neg (by simpa using h3)])
  clear h1 h2 h3 hkk
  go_enter Try.func189, Try.ntmps189
  go_wp2_with fail
  refine (cmpCompare_ok _ _ _).mono ?_
  rintro e w' ⟨rfl, rfl⟩
  go_wp2_with fail
  refine (cmpCompare_ok _ _ _).mono ?_
  rintro e w' ⟨rfl, rfl⟩
  go_wp2_with fail
  refine (stringsCompare_ok _ _ _).mono ?_
  rintro e w' ⟨rfl, rfl⟩
  go_wp2_with fail
  clear b1 b2 b3
  go_loopw [4, 8] (fun t4 i wr => t4 = .int .i64 0 ∧ Grow w wr ∧ BoxN wr w.heap.size (nodeL a na nc ka kc) ∧ BoxN wr (w.heap.size + 1) (nodeL b na2 nc2 ka2 kc2) ∧ ∃ k : Nat, k ≤ a.kids.length ∧ k ≤ b.kids.length ∧ i = .int .i64 k ∧ cmpKs (decide (a.kind = 4)) a.names b.names a.kids b.kids = cmpKs (decide (a.kind = 4)) (a.names.drop k) (b.names.drop k) (a.kids.drop k) (b.kids.drop k)) (fun _ i _ => a.kids.length - (intOf i).toNat)
  case atStart => exact ⟨rfl, (by repeat (first | with_reducible exact Ext.refl _ _ | with_reducible refine Ext.trans ?_ (by assumption) | with_reducible refine Ext.drew ?_ | with_reducible refine Ext.drewN ?_ _ | with_reducible refine Ext.alloc ?_ _ | with_reducible refine Ext.setNew ?_ (by simp; done) _ | with_reducible refine Ext.setNew ?_ (by simp; omega) _)), (BoxN.new w (nodeL a na nc ka kc) _).grow ((Ext.refl nil _).alloc _), BoxN.new1 w _ (nodeL b na2 nc2 ka2 kc2) _, 0, Nat.zero_le _, Nat.zero_le _, rfl, rfl⟩
  case round =>
    obtain ⟨rfl, hg0, B1, B2, k, hk1, hk2, rfl, hs⟩ := hrel
    have Hs := Lib.hid hs
    clear hs
    have HB1 := Lib.hid B1
    have HB2 := Lib.hid B2
    clear B1 B2
    by_cases hlt : k < a.kids.length ∧ k < b.kids.length
    · obtain ⟨hlt1, hlt2⟩ := hlt
      rcases Hks.out.2.2 with hh | ⟨bk, ok, rfl, _, hkr⟩
      · rw [hh] at hlt1; simp at hlt1
      rcases Hks2.out.2.2 with hh | ⟨bk2, ok2, rfl, _, hkr2⟩
      · rw [hh] at hlt2; simp at hlt2
      obtain ⟨na', nc', ka', kc', c0, c1, c2, c3, c4, hkc⟩ := (hkr.ext hg0 (fun _ _ h => h) (fun h => h)).get k hlt1
      obtain ⟨na3, nc3, ka3, kc3, d0, d1, d2, d3, d4, hkc2⟩ := (hkr2.ext hg0 (fun _ _ h => h) (fun h => h)).get k hlt2
      have Hkc : Hid (NodeR wr any a.kids[k] (nodeV a.kids[k] na' nc' ka' kc')) := Lib.hid ⟨_, _, _, _, rfl, hkc⟩
      have Hkc2 : Hid (NodeR wr any b.kids[k] (nodeV b.kids[k] na3 nc3 ka3 kc3)) := Lib.hid ⟨_, _, _, _, rfl, hkc2⟩
      have Hgka := Lib.hid (Hga.out.kid (List.getElem_mem hlt1))
      have Hgkb := Lib.hid (Hgb.out.kid (List.getElem_mem hlt2))
      clear hkr hkr2 hkc hkc2
      have p3 := HB1.out.cell 3 _ rfl
      have p4 := HB1.out.cell 4 _ rfl
      have p0 := HB1.out.cell 0 _ rfl
      have q3 := HB2.out.cell 3 _ rfl
      have q4 := HB2.out.cell 4 _ rfl
      by_cases h4 : a.kind = 4
      · have e1 := (Hga.out.map h4).2
        have e2 := (Hgb.out.map (by rw [← Hkk.out]; exact h4)).2
        have n1 : k < a.names.length := by omega
        have n2 : k < b.names.length := by omega
        have b4 : (a.kind == 4) = true := by simp [h4]
        have hst := cmpKs_map (ns := a.names) (ms := b.names) hlt1 hlt2 n1 n2
        rcases ((Hns.out).grow hg0).2.2.2 with hh | ⟨b5, o5, rfl, _, hc5⟩
        · rw [hh] at n1; simp at n1
        rcases ((Hns2.out).grow hg0).2.2.2 with hh | ⟨b6, o6, rfl, _, hc6⟩
        · rw [hh] at n2; simp at n2
        have x1 := hc5 k n1
        have x2 := hc6 k n2
        clear hc5 hc6 e1 e2
        have Hd : Hid (decide (a.kind = 4) = true) := Lib.hid (by simp [h4])
        clear h4
        by_cases h5 : sgnT a.names[k] b.names[k] = 0
        · have b5' := bne0 h5
          have hst' := hst.trans (if_neg (by simpa using h5))
          clear hst h5
          by_cases h6 : cmpN a.kids[k] b.kids[k] = 0
          · have b6' := bne0 h6
            have Hst := Lib.hid (hst'.trans (if_neg (by simpa using h6)))
            clear hst' h6
            go_wp2_with fail
            (refine wp_region_later (by kernel_rfl) (by kernel_rfl) ?_; (repeat (first | go_big_quiet_step ((go_at_call 154; exact later_call_same (stringsCompare_ok _ _ _))) | quiet_step ((go_at_call 154; exact later_call_same (stringsCompare_ok _ _ _))))); refine wpQuiet_nil ?_; rintro _ ⟨x_w2, rfl⟩; have hg_w2 := later_grow wr x_w2; generalize later wr x_w2 = w2 at hg_w2 ⊢)
            (replace p0 := hg_w2.some p0; replace p3 := hg_w2.some p3; replace p4 := hg_w2.some p4; replace q3 := hg_w2.some q3; replace q4 := hg_w2.some q4; replace c0 := hg_w2.some c0; replace c1 := hg_w2.some c1; replace c2 := hg_w2.some c2; replace c3 := hg_w2.some c3; replace c4 := hg_w2.some c4; replace d0 := hg_w2.some d0; replace d1 := hg_w2.some d1; replace d2 := hg_w2.some d2; replace d3 := hg_w2.some d3; replace d4 := hg_w2.some d4)
            go_wp2_with fail
            (refine wp_region_later (by kernel_rfl) (by kernel_rfl) ?_; (repeat (first | go_big_quiet_step ((go_at_call 189; exact later_call (v := .int .i64 (cmpN a.kids[k] b.kids[k])) (Ih.out _ (List.getElem_mem hlt1) b.kids[k] _ _ _ Hgka.out Hgkb.out (Hkc.out.grow (hg_w2.trans (later_grow _ _))) (Hkc2.out.grow (hg_w2.trans (later_grow _ _)))))) | quiet_step ((go_at_call 189; exact later_call (v := .int .i64 (cmpN a.kids[k] b.kids[k])) (Ih.out _ (List.getElem_mem hlt1) b.kids[k] _ _ _ Hgka.out Hgkb.out (Hkc.out.grow (hg_w2.trans (later_grow _ _))) (Hkc2.out.grow (hg_w2.trans (later_grow _ _)))))))); refine wpQuiet_nil ?_; rintro _ ⟨x_w3, rfl⟩; have hg_w3 := later_grow w2 x_w3; generalize later w2 x_w3 = w3 at hg_w3 ⊢)
            go_wp2_with fail
            go_roundw
            case rel => exact ⟨rfl, (by repeat (first | with_reducible exact Ext.refl _ _ | with_reducible refine Ext.trans ?_ (by assumption) | with_reducible refine Ext.drew ?_ | with_reducible refine Ext.drewN ?_ _ | with_reducible refine Ext.alloc ?_ _ | with_reducible refine Ext.setNew ?_ (by simp; done) _ | with_reducible refine Ext.setNew ?_ (by simp; omega) _)), HB1.out.grow (by repeat (first | with_reducible exact Ext.refl _ _ | with_reducible refine Ext.trans ?_ (by assumption) | with_reducible refine Ext.drew ?_ | with_reducible refine Ext.drewN ?_ _ | with_reducible refine Ext.alloc ?_ _ | with_reducible refine Ext.setNew ?_ (by simp; done) _ | with_reducible refine Ext.setNew ?_ (by simp; omega) _)), HB2.out.grow (by repeat (first | with_reducible exact Ext.refl _ _ | with_reducible refine Ext.trans ?_ (by assumption) | with_reducible refine Ext.drew ?_ | with_reducible refine Ext.drewN ?_ _ | with_reducible refine Ext.alloc ?_ _ | with_reducible refine Ext.setNew ?_ (by simp; done) _ | with_reducible refine Ext.setNew ?_ (by simp; omega) _)), k + 1, by omega, by omega, by go_num, by rw [Hs.out, Hd.out, Hst.out]⟩
            case measure => simp [intOf]; omega
          · have b6' := bne1 h6
            have Hst := Lib.hid (hst'.trans (if_pos h6))
            clear hst' h6
            go_wp2_with fail
            (refine wp_region_later (by kernel_rfl) (by kernel_rfl) ?_; (repeat (first | go_big_quiet_step ((go_at_call 154; exact later_call_same (stringsCompare_ok _ _ _))) | quiet_step ((go_at_call 154; exact later_call_same (stringsCompare_ok _ _ _))))); refine wpQuiet_nil ?_; rintro _ ⟨x_w2, rfl⟩; have hg_w2 := later_grow wr x_w2; generalize later wr x_w2 = w2 at hg_w2 ⊢)
            (replace p0 := hg_w2.some p0; replace p3 := hg_w2.some p3; replace p4 := hg_w2.some p4; replace q3 := hg_w2.some q3; replace q4 := hg_w2.some q4; replace c0 := hg_w2.some c0; replace c1 := hg_w2.some c1; replace c2 := hg_w2.some c2; replace c3 := hg_w2.some c3; replace c4 := hg_w2.some c4; replace d0 := hg_w2.some d0; replace d1 := hg_w2.some d1; replace d2 := hg_w2.some d2; replace d3 := hg_w2.some d3; replace d4 := hg_w2.some d4)
            go_wp2_with fail
            (refine wp_region_later (by kernel_rfl) (by kernel_rfl) ?_; (repeat (first | go_big_quiet_step ((go_at_call 189; exact later_call (v := .int .i64 (cmpN a.kids[k] b.kids[k])) (Ih.out _ (List.getElem_mem hlt1) b.kids[k] _ _ _ Hgka.out Hgkb.out (Hkc.out.grow (hg_w2.trans (later_grow _ _))) (Hkc2.out.grow (hg_w2.trans (later_grow _ _)))))) | quiet_step ((go_at_call 189; exact later_call (v := .int .i64 (cmpN a.kids[k] b.kids[k])) (Ih.out _ (List.getElem_mem hlt1) b.kids[k] _ _ _ Hgka.out Hgkb.out (Hkc.out.grow (hg_w2.trans (later_grow _ _))) (Hkc2.out.grow (hg_w2.trans (later_grow _ _)))))))); refine wpQuiet_nil ?_; rintro _ ⟨x_w3, rfl⟩; have hg_w3 := later_grow w2 x_w3; generalize later w2 x_w3 = w3 at hg_w3 ⊢)
            go_wp2_with fail
            go_ret
            exact ⟨by rw [Hff.out, Hs.out, Hd.out, Hst.out]; rfl, (by repeat (first | with_reducible exact Ext.refl _ _ | with_reducible refine Ext.trans ?_ (by assumption) | with_reducible refine Ext.drew ?_ | with_reducible refine Ext.drewN ?_ _ | with_reducible refine Ext.alloc ?_ _ | with_reducible refine Ext.setNew ?_ (by simp; done) _ | with_reducible refine Ext.setNew ?_ (by simp; omega) _))⟩
        · have b5' := bne1 h5
          have Hst := Lib.hid (hst.trans (if_pos h5))
          clear hst h5
          go_wp2_with fail
          (refine wp_region_later (by kernel_rfl) (by kernel_rfl) ?_; (repeat (first | go_big_quiet_step ((go_at_call 154; exact later_call_same (stringsCompare_ok _ _ _))) | quiet_step ((go_at_call 154; exact later_call_same (stringsCompare_ok _ _ _))))); refine wpQuiet_nil ?_; rintro _ ⟨x_w2, rfl⟩; have hg_w2 := later_grow wr x_w2; generalize later wr x_w2 = w2 at hg_w2 ⊢)
          go_wp2_with fail
          go_ret
          exact ⟨by rw [Hff.out, Hs.out, Hd.out, Hst.out]; rfl, (by repeat (first | with_reducible exact Ext.refl _ _ | with_reducible refine Ext.trans ?_ (by assumption) | with_reducible refine Ext.drew ?_ | with_reducible refine Ext.drewN ?_ _ | with_reducible refine Ext.alloc ?_ _ | with_reducible refine Ext.setNew ?_ (by simp; done) _ | with_reducible refine Ext.setNew ?_ (by simp; omega) _))⟩
      · have b4 : (a.kind == 4) = false := by simp [h4]
        have hst := cmpKs_list (ns := a.names) (ms := b.names) hlt1 hlt2
        have Hd : Hid (decide (a.kind = 4) = false) := Lib.hid (by simp [h4])
        clear h4
        by_cases h6 : cmpN a.kids[k] b.kids[k] = 0
        · have b6' := bne0 h6
          have Hst := Lib.hid (hst.trans (if_neg (by simpa using h6)))
          clear hst h6
          go_wp2_with fail
          (refine wp_region_later (by kernel_rfl) (by kernel_rfl) ?_; (repeat (first | go_big_quiet_step ((go_at_call 189; exact later_call (v := .int .i64 (cmpN a.kids[k] b.kids[k])) (Ih.out _ (List.getElem_mem hlt1) b.kids[k] _ _ _ Hgka.out Hgkb.out (Hkc.out.grow (later_grow _ _)) (Hkc2.out.grow (later_grow _ _))))) | quiet_step ((go_at_call 189; exact later_call (v := .int .i64 (cmpN a.kids[k] b.kids[k])) (Ih.out _ (List.getElem_mem hlt1) b.kids[k] _ _ _ Hgka.out Hgkb.out (Hkc.out.grow (later_grow _ _)) (Hkc2.out.grow (later_grow _ _))))))); refine wpQuiet_nil ?_; rintro _ ⟨x_w3, rfl⟩; have hg_w3 := later_grow wr x_w3; generalize later wr x_w3 = w3 at hg_w3 ⊢)
          go_wp2_with fail
          go_roundw
          case rel => exact ⟨rfl, (by repeat (first | with_reducible exact Ext.refl _ _ | with_reducible refine Ext.trans ?_ (by assumption) | with_reducible refine Ext.drew ?_ | with_reducible refine Ext.drewN ?_ _ | with_reducible refine Ext.alloc ?_ _ | with_reducible refine Ext.setNew ?_ (by simp; done) _ | with_reducible refine Ext.setNew ?_ (by simp; omega) _)), HB1.out.grow (by repeat (first | with_reducible exact Ext.refl _ _ | with_reducible refine Ext.trans ?_ (by assumption) | with_reducible refine Ext.drew ?_ | with_reducible refine Ext.drewN ?_ _ | with_reducible refine Ext.alloc ?_ _ | with_reducible refine Ext.setNew ?_ (by simp; done) _ | with_reducible refine Ext.setNew ?_ (by simp; omega) _)), HB2.out.grow (by repeat (first | with_reducible exact Ext.refl _ _ | with_reducible refine Ext.trans ?_ (by assumption) | with_reducible refine Ext.drew ?_ | with_reducible refine Ext.drewN ?_ _ | with_reducible refine Ext.alloc ?_ _ | with_reducible refine Ext.setNew ?_ (by simp; done) _ | with_reducible refine Ext.setNew ?_ (by simp; omega) _)), k + 1, by omega, by omega, by go_num, by rw [Hs.out, Hd.out, Hst.out]⟩
          case measure => simp [intOf]; omega
        · have b6' := bne1 h6
          have Hst := Lib.hid (hst.trans (if_pos h6))
          clear hst h6
          go_wp2_with fail
          (refine wp_region_later (by kernel_rfl) (by kernel_rfl) ?_; (repeat (first | go_big_quiet_step ((go_at_call 189; exact later_call (v := .int .i64 (cmpN a.kids[k] b.kids[k])) (Ih.out _ (List.getElem_mem hlt1) b.kids[k] _ _ _ Hgka.out Hgkb.out (Hkc.out.grow (later_grow _ _)) (Hkc2.out.grow (later_grow _ _))))) | quiet_step ((go_at_call 189; exact later_call (v := .int .i64 (cmpN a.kids[k] b.kids[k])) (Ih.out _ (List.getElem_mem hlt1) b.kids[k] _ _ _ Hgka.out Hgkb.out (Hkc.out.grow (later_grow _ _)) (Hkc2.out.grow (later_grow _ _))))))); refine wpQuiet_nil ?_; rintro _ ⟨x_w3, rfl⟩; have hg_w3 := later_grow wr x_w3; generalize later wr x_w3 = w3 at hg_w3 ⊢)
          go_wp2_with fail
          go_ret
          exact ⟨by rw [Hff.out, Hs.out, Hd.out, Hst.out]; rfl, (by repeat (first | with_reducible exact Ext.refl _ _ | with_reducible refine Ext.trans ?_ (by assumption) | with_reducible refine Ext.drew ?_ | with_reducible refine Ext.drewN ?_ _ | with_reducible refine Ext.alloc ?_ _ | with_reducible refine Ext.setNew ?_ (by simp; done) _ | with_reducible refine Ext.setNew ?_ (by simp; omega) _))⟩
    · have Hend := Lib.hid (cmpKs_end (decide (a.kind = 4)) a.names b.names a.kids b.kids k hk1 hk2 hlt)
      have p4 := HB1.out.cell 4 _ rfl
      have q4 := HB2.out.cell 4 _ rfl
      by_cases h1 : k < a.kids.length
      · have h2 : ¬ k < b.kids.length := by omega
        go_wp2_with fail
        refine (cmpCompare_ok _ _ _).mono ?_
        rintro e w' ⟨rfl, rfl⟩
        go_wp2_with fail
        go_ret
        exact ⟨by rw [Hff.out, Hs.out, Hend.out]; rfl, hg0⟩
      · go_wp2_with fail
        refine (cmpCompare_ok _ _ _).mono ?_
        rintro e w' ⟨rfl, rfl⟩
        go_wp2_with fail
        go_ret
        exact ⟨by rw [Hff.out, Hs.out, Hend.out]; rfl, hg0⟩
theorem compareValid_ok : ∀ a, CmpIOk a := Nd.ind' CmpIOk compareValid_of
end Go.Proofs.Ytgfnmhfdmmnaoaa
namespace Go.Proofs.Ytgfnmhfdmmnaoaa
open Go.RowKit
theorem compare_of (a : Nd) (ih : ∀ k ∈ a.kids, CmpSOk k) : CmpSOk a := by
  intro b v u w hga hgb hv hu
  obtain ⟨na, nc, ka, kc, rfl, hc⟩ := hv
  obtain ⟨na2, nc2, ka2, kc2, rfl, hc2⟩ := hu
  obtain ⟨_, hns, hks⟩ := hc.parts
  obtain ⟨_, hns2, hks2⟩ := hc2.parts
  have l1 : a.kids.length ≤ 6 := hga.kids6
  have l2 : b.kids.length ≤ 6 := hgb.kids6
  have Hns := Lib.hid hns
  have Hks := Lib.hid hks
  have Hns2 := Lib.hid hns2
  have Hks2 := Lib.hid hks2
  have Hga := Lib.hid hga
  have Hgb := Lib.hid hgb
  have Ih := Lib.hid ih
  have Hf := Lib.hid (cmpN_eq a b)
  clear hc hc2 hns hks hns2 hks2 hga hgb ih
  unfold nodeV
  by_cases h1 : sgnI a.kind b.kind = 0
  rotate_left
  · have b1 : (a.kind != b.kind) = true := by simpa using fun e => h1 (sgnI_zero.2 e)
    have Hff : Hid (cmpN a b = sgnI a.kind b.kind) := Lib.hid (by rw [Hf.out, if_pos h1])
    clear h1
    go_enter Try.func148, Try.ntmps148
    go_wp2_with fail
    refine (order_ok _ _ _).mono ?_
    rintro e w' ⟨rfl, rfl⟩
    go_wp2_with fail
    go_ret
    exact ⟨by simp [Hff.out], (by repeat (first | with_reducible exact Ext.refl _ _ | with_reducible refine Ext.trans ?_ (by assumption) | with_reducible refine Ext.drew ?_ | with_reducible refine Ext.drewN ?_ _ | with_reducible refine Ext.alloc ?_ _ | with_reducible refine Ext.setNew ?_ (by simp; done) _ | with_reducible refine Ext.setNew ?_ (by simp; omega) _))⟩
  have b1 : (a.kind != b.kind) = false := by simpa using sgnI_zero.1 h1
  by_cases h2 : sgnI a.num b.num = 0
  rotate_left
  · have b2 : (a.num != b.num) = true := by simpa using fun e => h2 (sgnI_zero.2 e)
    have Hff : Hid (cmpN a b = sgnI a.num b.num) := Lib.hid (by rw [Hf.out, if_neg (by simpa using h1), if_pos h2])
    clear h1 h2
    go_enter Try.func148, Try.ntmps148
    go_wp2_with fail
    refine (order_ok _ _ _).mono ?_
    rintro e w' ⟨rfl, rfl⟩
    go_wp2_with fail
    go_ret
    exact ⟨by simp [Hff.out], (by repeat (first | with_reducible exact Ext.refl _ _ | with_reducible refine Ext.trans ?_ (by assumption) | with_reducible refine Ext.drew ?_ | with_reducible refine Ext.drewN ?_ _ | with_reducible refine Ext.alloc ?_ _ | with_reducible refine Ext.setNew ?_ (by simp; done) _ | with_reducible refine Ext.setNew ?_ (by simp; omega) _))⟩
  have b2 : (a.num != b.num) = false := by simpa using sgnI_zero.1 h2
  by_cases h3 : sgnT a.text b.text = 0
  rotate_left
  · have b3 : (a.text.toList == b.text.toList) = false := by rw [beq_toList]; simpa using fun e => h3 (sgnT_zero.2 e)
    have Hff : Hid (cmpN a b = sgnT a.text b.text) := Lib.hid (by rw [Hf.out, if_neg (by simpa using h1), if_neg (by simpa using h2), if_pos h3])
    clear h1 h2 h3
    go_enter Try.func148, Try.ntmps148
    go_wp2_with fail
    refine (orderText_ok _ _ _).mono ?_
    rintro e w' ⟨rfl, rfl⟩
    go_wp2_with fail
    go_ret
    exact ⟨by simp [Hff.out], (by repeat (first | with_reducible exact Ext.refl _ _ | with_reducible refine Ext.trans ?_ (by assumption) | with_reducible refine Ext.drew ?_ | with_reducible refine Ext.drewN ?_ _ | with_reducible refine Ext.alloc ?_ _ | with_reducible refine Ext.setNew ?_ (by simp; done) _ | with_reducible refine Ext.setNew ?_ (by simp; omega) _))⟩
  have b3 : (a.text.toList == b.text.toList) = true := by rw [beq_toList]; simpa using sgnT_zero.1 h3
  have hkk : a.kind = b.kind := sgnI_zero.1 h1
  have Hkk := Lib.hid hkk
  have Hff : Hid (cmpN a b = cmpKs (decide (a.kind = 4)) a.names b.names a.kids b.kids) := Lib.hid (by rw [Hf.out, if_neg (by simpa using h1), if_neg (by simpa using h2), if_neg (by simpa using h3)])
  clear h1 h2 h3 hkk
  go_enter Try.func148, Try.ntmps148
  go_wp2_with fail
  clear b1 b2 b3
  go_loopw [4, 5] (fun t4 i wr => t4 = .int .i64 0 ∧ Grow w wr ∧ BoxN wr w.heap.size (nodeL a na nc ka kc) ∧ BoxN wr (w.heap.size + 1) (nodeL b na2 nc2 ka2 kc2) ∧ ∃ k : Nat, k ≤ a.kids.length ∧ k ≤ b.kids.length ∧ i = .int .i64 k ∧ cmpKs (decide (a.kind = 4)) a.names b.names a.kids b.kids = cmpKs (decide (a.kind = 4)) (a.names.drop k) (b.names.drop k) (a.kids.drop k) (b.kids.drop k)) (fun _ i _ => a.kids.length - (intOf i).toNat)
  case atStart => exact ⟨rfl, (by repeat (first | with_reducible exact Ext.refl _ _ | with_reducible refine Ext.trans ?_ (by assumption) | with_reducible refine Ext.drew ?_ | with_reducible refine Ext.drewN ?_ _ | with_reducible refine Ext.alloc ?_ _ | with_reducible refine Ext.setNew ?_ (by simp; done) _ | with_reducible refine Ext.setNew ?_ (by simp; omega) _)), (BoxN.new w (nodeL a na nc ka kc) _).grow ((Ext.refl nil _).alloc _), BoxN.new1 w _ (nodeL b na2 nc2 ka2 kc2) _, 0, Nat.zero_le _, Nat.zero_le _, rfl, rfl⟩
  case round =>
    obtain ⟨rfl, hg0, B1, B2, k, hk1, hk2, rfl, hs⟩ := hrel
    have Hs := Lib.hid hs
    clear hs
    have HB1 := Lib.hid B1
    have HB2 := Lib.hid B2
    clear B1 B2
    by_cases hlt : k < a.kids.length ∧ k < b.kids.length
    · obtain ⟨hlt1, hlt2⟩ := hlt
      rcases Hks.out.2.2 with hh | ⟨bk, ok, rfl, _, hkr⟩
      · rw [hh] at hlt1; simp at hlt1
      rcases Hks2.out.2.2 with hh | ⟨bk2, ok2, rfl, _, hkr2⟩
      · rw [hh] at hlt2; simp at hlt2
      obtain ⟨na', nc', ka', kc', c0, c1, c2, c3, c4, hkc⟩ := (hkr.ext hg0 (fun _ _ h => h) (fun h => h)).get k hlt1
      obtain ⟨na3, nc3, ka3, kc3, d0, d1, d2, d3, d4, hkc2⟩ := (hkr2.ext hg0 (fun _ _ h => h) (fun h => h)).get k hlt2
      have Hkc : Hid (NodeR wr any a.kids[k] (nodeV a.kids[k] na' nc' ka' kc')) := Lib.hid ⟨_, _, _, _, rfl, hkc⟩
      have Hkc2 : Hid (NodeR wr any b.kids[k] (nodeV b.kids[k] na3 nc3 ka3 kc3)) := Lib.hid ⟨_, _, _, _, rfl, hkc2⟩
      have Hgka := Lib.hid (Hga.out.kid (List.getElem_mem hlt1))
      have Hgkb := Lib.hid (Hgb.out.kid (List.getElem_mem hlt2))
      clear hkr hkr2 hkc hkc2
      have p3 := HB1.out.cell 3 _ rfl
      have p4 := HB1.out.cell 4 _ rfl
      have p0 := HB1.out.cell 0 _ rfl
      have q3 := HB2.out.cell 3 _ rfl
      have q4 := HB2.out.cell 4 _ rfl
      by_cases h4 : a.kind = 4
      · have e1 := (Hga.out.map h4).2
        have e2 := (Hgb.out.map (by rw [← Hkk.out]; exact h4)).2
        have n1 : k < a.names.length := by omega
        have n2 : k < b.names.length := by omega
        have b4 : (a.kind == 4) = true := by simp [h4]
        have hst := cmpKs_map (ns := a.names) (ms := b.names) hlt1 hlt2 n1 n2
        rcases ((Hns.out).grow hg0).2.2.2 with hh | ⟨b5, o5, rfl, _, hc5⟩
        · rw [hh] at n1; simp at n1
        rcases ((Hns2.out).grow hg0).2.2.2 with hh | ⟨b6, o6, rfl, _, hc6⟩
        · rw [hh] at n2; simp at n2
        have x1 := hc5 k n1
        have x2 := hc6 k n2
        clear hc5 hc6 e1 e2
        have Hd : Hid (decide (a.kind = 4) = true) := Lib.hid (by simp [h4])
        clear h4
        by_cases h5 : sgnT a.names[k] b.names[k] = 0
        · have b5' : (a.names[k].toList == b.names[k].toList) = true := by rw [beq_toList]; simpa using sgnT_zero.1 h5
          have hst' := hst.trans (if_neg (by simpa using h5))
          clear hst h5
          by_cases h6 : cmpN a.kids[k] b.kids[k] = 0
          · have b6' := bne0 h6
            have Hst := Lib.hid (hst'.trans (if_neg (by simpa using h6)))
            clear hst' h6
            go_wp2_with fail
            (refine wp_region_later (by kernel_rfl) (by kernel_rfl) ?_; (repeat (first | go_big_quiet_step (fail) | quiet_step (fail))); refine wpQuiet_nil ?_; rintro _ ⟨x_w2, rfl⟩; have hg_w2 := later_grow wr x_w2; generalize later wr x_w2 = w2 at hg_w2 ⊢)
            (replace p0 := hg_w2.some p0; replace p3 := hg_w2.some p3; replace p4 := hg_w2.some p4; replace q3 := hg_w2.some q3; replace q4 := hg_w2.some q4; replace c0 := hg_w2.some c0; replace c1 := hg_w2.some c1; replace c2 := hg_w2.some c2; replace c3 := hg_w2.some c3; replace c4 := hg_w2.some c4; replace d0 := hg_w2.some d0; replace d1 := hg_w2.some d1; replace d2 := hg_w2.some d2; replace d3 := hg_w2.some d3; replace d4 := hg_w2.some d4)
            go_wp2_with fail
            (refine wp_region_later (by kernel_rfl) (by kernel_rfl) ?_; (repeat (first | go_big_quiet_step ((go_at_call 148; exact later_call (v := .int .i64 (cmpN a.kids[k] b.kids[k])) (Ih.out _ (List.getElem_mem hlt1) b.kids[k] _ _ _ Hgka.out Hgkb.out (Hkc.out.grow (hg_w2.trans (later_grow _ _))) (Hkc2.out.grow (hg_w2.trans (later_grow _ _)))))) | quiet_step ((go_at_call 148; exact later_call (v := .int .i64 (cmpN a.kids[k] b.kids[k])) (Ih.out _ (List.getElem_mem hlt1) b.kids[k] _ _ _ Hgka.out Hgkb.out (Hkc.out.grow (hg_w2.trans (later_grow _ _))) (Hkc2.out.grow (hg_w2.trans (later_grow _ _)))))))); refine wpQuiet_nil ?_; rintro _ ⟨x_w3, rfl⟩; have hg_w3 := later_grow w2 x_w3; generalize later w2 x_w3 = w3 at hg_w3 ⊢)
            go_wp2_with fail
            go_roundw
            case rel => exact ⟨rfl, (by repeat (first | with_reducible exact Ext.refl _ _ | with_reducible refine Ext.trans ?_ (by assumption) | with_reducible refine Ext.drew ?_ | with_reducible refine Ext.drewN ?_ _ | with_reducible refine Ext.alloc ?_ _ | with_reducible refine Ext.setNew ?_ (by simp; done) _ | with_reducible refine Ext.setNew ?_ (by simp; omega) _)), HB1.out.grow (by repeat (first | with_reducible exact Ext.refl _ _ | with_reducible refine Ext.trans ?_ (by assumption) | with_reducible refine Ext.drew ?_ | with_reducible refine Ext.drewN ?_ _ | with_reducible refine Ext.alloc ?_ _ | with_reducible refine Ext.setNew ?_ (by simp; done) _ | with_reducible refine Ext.setNew ?_ (by simp; omega) _)), HB2.out.grow (by repeat (first | with_reducible exact Ext.refl _ _ | with_reducible refine Ext.trans ?_ (by assumption) | with_reducible refine Ext.drew ?_ | with_reducible refine Ext.drewN ?_ _ | with_reducible refine Ext.alloc ?_ _ | with_reducible refine Ext.setNew ?_ (by simp; done) _ | with_reducible refine Ext.setNew ?_ (by simp; omega) _)), k + 1, by omega, by omega, by go_num, by rw [Hs.out, Hd.out, Hst.out]⟩
            case measure => simp [intOf]; omega
          · have b6' := bne1 h6
            have Hst := Lib.hid (hst'.trans (if_pos h6))
            clear hst' h6
            go_wp2_with fail
            (refine wp_region_later (by kernel_rfl) (by kernel_rfl) ?_; (repeat (first | go_big_quiet_step (fail) | quiet_step (fail))); refine wpQuiet_nil ?_; rintro _ ⟨x_w2, rfl⟩; have hg_w2 := later_grow wr x_w2; generalize later wr x_w2 = w2 at hg_w2 ⊢)
            (replace p0 := hg_w2.some p0; replace p3 := hg_w2.some p3; replace p4 := hg_w2.some p4; replace q3 := hg_w2.some q3; replace q4 := hg_w2.some q4; replace c0 := hg_w2.some c0; replace c1 := hg_w2.some c1; replace c2 := hg_w2.some c2; replace c3 := hg_w2.some c3; replace c4 := hg_w2.some c4; replace d0 := hg_w2.some d0; replace d1 := hg_w2.some d1; replace d2 := hg_w2.some d2; replace d3 := hg_w2.some d3; replace d4 := hg_w2.some d4)
            go_wp2_with fail
            (refine wp_region_later (by kernel_rfl) (by kernel_rfl) ?_; (repeat (first | go_big_quiet_step ((go_at_call 148; exact later_call (v := .int .i64 (cmpN a.kids[k] b.kids[k])) (Ih.out _ (List.getElem_mem hlt1) b.kids[k] _ _ _ Hgka.out Hgkb.out (Hkc.out.grow (hg_w2.trans (later_grow _ _))) (Hkc2.out.grow (hg_w2.trans (later_grow _ _)))))) | quiet_step ((go_at_call 148; exact later_call (v := .int .i64 (cmpN a.kids[k] b.kids[k])) (Ih.out _ (List.getElem_mem hlt1) b.kids[k] _ _ _ Hgka.out Hgkb.out (Hkc.out.grow (hg_w2.trans (later_grow _ _))) (Hkc2.out.grow (hg_w2.trans (later_grow _ _)))))))); refine wpQuiet_nil ?_; rintro _ ⟨x_w3, rfl⟩; have hg_w3 := later_grow w2 x_w3; generalize later w2 x_w3 = w3 at hg_w3 ⊢)
            go_wp2_with fail
            go_ret
            exact ⟨by rw [Hff.out, Hs.out, Hd.out, Hst.out]; rfl, (by repeat (first | with_reducible exact Ext.refl _ _ | with_reducible refine Ext.trans ?_ (by assumption) | with_reducible refine Ext.drew ?_ | with_reducible refine Ext.drewN ?_ _ | with_reducible refine Ext.alloc ?_ _ | with_reducible refine Ext.setNew ?_ (by simp; done) _ | with_reducible refine Ext.setNew ?_ (by simp; omega) _))⟩
        · have b5' : (a.names[k].toList == b.names[k].toList) = false := by rw [beq_toList]; simpa using fun e => h5 (sgnT_zero.2 e)
          have Hst := Lib.hid (hst.trans (if_pos h5))
          clear hst h5
          go_wp2_with fail
          (refine wp_region_later (by kernel_rfl) (by kernel_rfl) ?_; (repeat (first | go_big_quiet_step (fail) | quiet_step (fail))); refine wpQuiet_nil ?_; rintro _ ⟨x_w2, rfl⟩; have hg_w2 := later_grow wr x_w2; generalize later wr x_w2 = w2 at hg_w2 ⊢)
          (replace p0 := hg_w2.some p0; replace p3 := hg_w2.some p3; replace p4 := hg_w2.some p4; replace q3 := hg_w2.some q3; replace q4 := hg_w2.some q4; replace c0 := hg_w2.some c0; replace c1 := hg_w2.some c1; replace c2 := hg_w2.some c2; replace c3 := hg_w2.some c3; replace c4 := hg_w2.some c4; replace d0 := hg_w2.some d0; replace d1 := hg_w2.some d1; replace d2 := hg_w2.some d2; replace d3 := hg_w2.some d3; replace d4 := hg_w2.some d4; replace x1 := hg_w2.some x1; replace x2 := hg_w2.some x2)
          go_wp2_with fail
          (refine wp_region_later (by kernel_rfl) (by kernel_rfl) ?_; (repeat (first | go_big_quiet_step ((go_at_call 177; exact later_call_same (orderText_ok _ _ _))) | quiet_step ((go_at_call 177; exact later_call_same (orderText_ok _ _ _))))); refine wpQuiet_nil ?_; rintro _ ⟨x_w3, rfl⟩; have hg_w3 := later_grow w2 x_w3; generalize later w2 x_w3 = w3 at hg_w3 ⊢)
          go_wp2_with fail
          go_ret
          exact ⟨by rw [Hff.out, Hs.out, Hd.out, Hst.out]; rfl, (by repeat (first | with_reducible exact Ext.refl _ _ | with_reducible refine Ext.trans ?_ (by assumption) | with_reducible refine Ext.drew ?_ | with_reducible refine Ext.drewN ?_ _ | with_reducible refine Ext.alloc ?_ _ | with_reducible refine Ext.setNew ?_ (by simp; done) _ | with_reducible refine Ext.setNew ?_ (by simp; omega) _))⟩
      · have b4 : (a.kind == 4) = false := by simp [h4]
        have hst := cmpKs_list (ns := a.names) (ms := b.names) hlt1 hlt2
        have Hd : Hid (decide (a.kind = 4) = false) := Lib.hid (by simp [h4])
        clear h4
        by_cases h6 : cmpN a.kids[k] b.kids[k] = 0
        · have b6' := bne0 h6
          have Hst := Lib.hid (hst.trans (if_neg (by simpa using h6)))
          clear hst h6
          go_wp2_with fail
          (refine wp_region_later (by kernel_rfl) (by kernel_rfl) ?_; (repeat (first | go_big_quiet_step (fail) | quiet_step (fail))); refine wpQuiet_nil ?_; rintro _ ⟨x_w2, rfl⟩; have hg_w2 := later_grow wr x_w2; generalize later wr x_w2 = w2 at hg_w2 ⊢)
          (replace p0 := hg_w2.some p0; replace p3 := hg_w2.some p3; replace p4 := hg_w2.some p4; replace q3 := hg_w2.some q3; replace q4 := hg_w2.some q4; replace c0 := hg_w2.some c0; replace c1 := hg_w2.some c1; replace c2 := hg_w2.some c2; replace c3 := hg_w2.some c3; replace c4 := hg_w2.some c4; replace d0 := hg_w2.some d0; replace d1 := hg_w2.some d1; replace d2 := hg_w2.some d2; replace d3 := hg_w2.some d3; replace d4 := hg_w2.some d4)
          go_wp2_with fail
          (refine wp_region_later (by kernel_rfl) (by kernel_rfl) ?_; (repeat (first | go_big_quiet_step ((go_at_call 148; exact later_call (v := .int .i64 (cmpN a.kids[k] b.kids[k])) (Ih.out _ (List.getElem_mem hlt1) b.kids[k] _ _ _ Hgka.out Hgkb.out (Hkc.out.grow (hg_w2.trans (later_grow _ _))) (Hkc2.out.grow (hg_w2.trans (later_grow _ _)))))) | quiet_step ((go_at_call 148; exact later_call (v := .int .i64 (cmpN a.kids[k] b.kids[k])) (Ih.out _ (List.getElem_mem hlt1) b.kids[k] _ _ _ Hgka.out Hgkb.out (Hkc.out.grow (hg_w2.trans (later_grow _ _))) (Hkc2.out.grow (hg_w2.trans (later_grow _ _)))))))); refine wpQuiet_nil ?_; rintro _ ⟨x_w3, rfl⟩; have hg_w3 := later_grow w2 x_w3; generalize later w2 x_w3 = w3 at hg_w3 ⊢)
          go_wp2_with fail
          go_roundw
          case rel => exact ⟨rfl, (by repeat (first | with_reducible exact Ext.refl _ _ | with_reducible refine Ext.trans ?_ (by assumption) | with_reducible refine Ext.drew ?_ | with_reducible refine Ext.drewN ?_ _ | with_reducible refine Ext.alloc ?_ _ | with_reducible refine Ext.setNew ?_ (by simp; done) _ | with_reducible refine Ext.setNew ?_ (by simp; omega) _)), HB1.out.grow (by repeat (first | with_reducible exact Ext.refl _ _ | with_reducible refine Ext.trans ?_ (by assumption) | with_reducible refine Ext.drew ?_ | with_reducible refine Ext.drewN ?_ _ | with_reducible refine Ext.alloc ?_ _ | with_reducible refine Ext.setNew ?_ (by simp; done) _ | with_reducible refine Ext.setNew ?_ (by simp; omega) _)), HB2.out.grow (by repeat (first | with_reducible exact Ext.refl _ _ | with_reducible refine Ext.trans ?_ (by assumption) | with_reducible refine Ext.drew ?_ | with_reducible refine Ext.drewN ?_ _ | with_reducible refine Ext.alloc ?_ _ | with_reducible refine Ext.setNew ?_ (by simp; done) _ | with_reducible refine Ext.setNew ?_ (by simp; omega) _)), k + 1, by omega, by omega, by go_num, by rw [Hs.out, Hd.out, Hst.out]⟩
          case measure => simp [intOf]; omega
        · have b6' := bne1 h6
          have Hst := Lib.hid (hst.trans (if_pos h6))
          clear hst h6
          go_wp2_with fail
          (refine wp_region_later (by kernel_rfl) (by kernel_rfl) ?_; (repeat (first | go_big_quiet_step (fail) | quiet_step (fail))); refine wpQuiet_nil ?_; rintro _ ⟨x_w2, rfl⟩; have hg_w2 := later_grow wr x_w2; generalize later wr x_w2 = w2 at hg_w2 ⊢)
          (replace p0 := hg_w2.some p0; replace p3 := hg_w2.some p3; replace p4 := hg_w2.some p4; replace q3 := hg_w2.some q3; replace q4 := hg_w2.some q4; replace c0 := hg_w2.some c0; replace c1 := hg_w2.some c1; replace c2 := hg_w2.some c2; replace c3 := hg_w2.some c3; replace c4 := hg_w2.some c4; replace d0 := hg_w2.some d0; replace d1 := hg_w2.some d1; replace d2 := hg_w2.some d2; replace d3 := hg_w2.some d3; replace d4 := hg_w2.some d4)
          go_wp2_with fail
          (refine wp_region_later (by kernel_rfl) (by kernel_rfl) ?_; (repeat (first | go_big_quiet_step ((go_at_call 148; exact later_call (v := .int .i64 (cmpN a.kids[k] b.kids[k])) (Ih.out _ (List.getElem_mem hlt1) b.kids[k] _ _ _ Hgka.out Hgkb.out (Hkc.out.grow (hg_w2.trans (later_grow _ _))) (Hkc2.out.grow (hg_w2.trans (later_grow _ _)))))) | quiet_step ((go_at_call 148; exact later_call (v := .int .i64 (cmpN a.kids[k] b.kids[k])) (Ih.out _ (List.getElem_mem hlt1) b.kids[k] _ _ _ Hgka.out Hgkb.out (Hkc.out.grow (hg_w2.trans (later_grow _ _))) (Hkc2.out.grow (hg_w2.trans (later_grow _ _)))))))); refine wpQuiet_nil ?_; rintro _ ⟨x_w3, rfl⟩; have hg_w3 := later_grow w2 x_w3; generalize later w2 x_w3 = w3 at hg_w3 ⊢)
          go_wp2_with fail
          go_ret
          exact ⟨by rw [Hff.out, Hs.out, Hd.out, Hst.out]; rfl, (by repeat (first | with_reducible exact Ext.refl _ _ | with_reducible refine Ext.trans ?_ (by assumption) | with_reducible refine Ext.drew ?_ | with_reducible refine Ext.drewN ?_ _ | with_reducible refine Ext.alloc ?_ _ | with_reducible refine Ext.setNew ?_ (by simp; done) _ | with_reducible refine Ext.setNew ?_ (by simp; omega) _))⟩
    · have Hend := Lib.hid (cmpKs_end (decide (a.kind = 4)) a.names b.names a.kids b.kids k hk1 hk2 hlt)
      have p4 := HB1.out.cell 4 _ rfl
      have q4 := HB2.out.cell 4 _ rfl
      by_cases h1 : k < a.kids.length
      · have h2 : ¬ k < b.kids.length := by omega
        go_wp2_with fail
        refine (order_ok _ _ _).mono ?_
        rintro e w' ⟨rfl, rfl⟩
        go_wp2_with fail
        go_ret
        exact ⟨by rw [Hff.out, Hs.out, Hend.out]; rfl, hg0⟩
      · go_wp2_with fail
        refine (order_ok _ _ _).mono ?_
        rintro e w' ⟨rfl, rfl⟩
        go_wp2_with fail
        go_ret
        exact ⟨by rw [Hff.out, Hs.out, Hend.out]; rfl, hg0⟩
theorem compare_ok : ∀ a, CmpSOk a := Nd.ind' CmpSOk compare_of
end Go.Proofs.Ytgfnmhfdmmnaoaa
namespace Go.Proofs.Ytgfnmhfdmmnaoaa
open Go.RowKit
def frB (lo hi : Nd) (e : Ent) : Bool := decide (cmpN lo e.1 ≤ 0) && decide (cmpN e.1 hi ≤ 0)
end Go.Proofs.Ytgfnmhfdmmnaoaa
namespace Go.Proofs.Ytgfnmhfdmmnaoaa
open Go.RowKit
mutual
theorem cntK_le : ∀ n : Nd, cntK n ≤ 3 + 3 * costN n
  | ⟨_, _, text, names, kids⟩ => by
    have h := cntL_le kids
    have h2 : names.length ≤ costS names := by simp [costS]
    simp only [cntK, costN]; omega
theorem cntL_le : ∀ l : List Nd, cntL l ≤ 3 * costL l
  | [] => by simp [cntL]
  | k :: ks => by
    have h1 := cntK_le k
    have h2 := cntL_le ks
    simp only [cntL, costL]; omega
end
theorem cntT_le (n : Nd) : cntT n ≤ 3 * costN n := by
  have := cntK_le n
  rw [cntK_eq] at this; unfold cntT; omega
def Seg (A Z : Nat) (w : World) (fp : List Nat) : Prop := Free A w fp ∧ ∀ y ∈ fp, y < Z
theorem Seg.of {A : Nat} {w : World} {fp : List Nat} (h : Free A w fp) : Seg A w.heap.size w fp := ⟨h, fun y hy => (h.2 y hy).2.1⟩
theorem Seg.grow {A Z : Nat} {w w' : World} {fp : List Nat} (h : Seg A Z w fp) (hg : Grow w w') : Seg A Z w' fp := ⟨h.1.ext hg (fun _ _ h => h), h.2⟩
theorem Seg.off {A Z A' Z' : Nat} {w w0 : World} {fp fx : List Nat} (h : Seg A Z w fp) (hx : Seg A' Z' w0 fx) (hd : Z ≤ A' ∨ Z' ≤ A) : ∀ y ∈ fp, ¬ inl fx y := fun y hy h2 => by
  have h3 := h.2 y hy
  have h4 := (h.1.2 y hy).1
  have h5 := hx.2 y h2
  have h6 := (hx.1.2 y h2).1
  omega
theorem Seg.ext {A Z A' Z' : Nat} {w w' w0 : World} {fp fx : List Nat} (h : Seg A Z w fp) (hx : Seg A' Z' w0 fx) (hd : Z ≤ A' ∨ Z' ≤ A) (he : Ext (inl fx) w w') : Seg A Z w' fp := ⟨h.1.ext he (h.off hx hd), h.2⟩
theorem Seg.keeps {A Z A' Z' : Nat} {w w' w0 : World} {fp fx : List Nat} (h : Seg A Z w fp) (hx : Seg A' Z' w0 fx) (hd : Z ≤ A' ∨ Z' ≤ A) (he : Ext (inl fx) w w') : ∀ b ∈ fp, ∀ o, w'.cell? ⟨b, o, none⟩ = w.cell? ⟨b, o, none⟩ := he.keeps h.1 (h.off hx hd)
theorem Seg.marked {A Z : Nat} {w w' : World} {fp : List Nat} (h : Seg A Z w fp) (h' : Free A w' fp) : Seg A Z w' fp := ⟨h', h.2⟩
theorem Seg.inner {A Z : Nat} {w0 w w' : World} {fp : List Nat} (h : Seg A Z w fp) (hg : Grow w0 w) (he : Ext (inl fp) w w') (hA : w0.heap.size ≤ A) : Grow w0 w' :=
  hg.inner he (fun i hi => Nat.le_trans hA (h.1.2 i hi).1)
theorem Seg.box {A Z b : Nat} {w0 w w' : World} {fp : List Nat} {cs : List Value} (h : Seg A Z w0 fp) (hB : BoxN w b cs) (he : Ext (inl fp) w w') (hd : b < A ∨ Z ≤ b) : BoxN w' b cs :=
  hB.ext he (fun hi => by have h3 := h.2 b hi; have h4 := (h.1.2 b hi).1; omega)
theorem Seg.below {A Z : Nat} {w0 w w' : World} {fp : List Nat} {a : Option Addr} {c Y : Nat} {xs : List ByteArray} (h : Seg A Z w0 fp) (hs : StrsR w (fun k => k < Y) a c xs) (he : Ext (inl fp) w w') (hd : Y ≤ A) : StrsR w' (fun k => k < Y) a c xs :=
  hs.ext he (fun k hk hi => by have h4 := (h.1.2 k hi).1; omega)
theorem StrsR.under {S : Nat → Prop} {w : World} {a : Option Addr} {c : Nat} {xs : List ByteArray} (h : StrsR w S a c xs) : StrsR w (fun k => k < w.heap.size) a c xs := h.lt.mono (fun _ h => h.2)
end Go.Proofs.Ytgfnmhfdmmnaoaa
namespace Go.Proofs.Ytgfnmhfdmmnaoaa
open Go.RowKit
def packA (cs : List Value) : Value := .agg cs.toArray
def RV {α : Type} (E : Rep α) (pk : List Value → Value) (w : World) (S : Nat → Prop) (x : α) (v : Value) : Prop := ∃ cs, v = pk cs ∧ E.R w S x cs
def FV {α : Type} (E : Rep α) (pk : List Value → Value) (w : World) (x : α) (v : Value) (fp : List Nat) : Prop := ∃ cs, v = pk cs ∧ E.F w x cs fp
section
variable {α : Type} {E : Rep α} {pk : List Value → Value}
theorem RV.ext {X S : Nat → Prop} {w w' : World} {x : α} {v : Value} (h : RV E pk w S x v) (he : Ext X w w') (hS : ∀ k, S k → ¬ X k) : RV E pk w' S x v := by
  obtain ⟨cs, hv, hc⟩ := h; exact ⟨cs, hv, E.ext he hS hc⟩
theorem RV.grow {S : Nat → Prop} {w w' : World} {x : α} {v : Value} (h : RV E pk w S x v) (hg : Grow w w') : RV E pk w' S x v := h.ext hg (fun _ _ h => h)
theorem RV.mono {S T : Nat → Prop} {w : World} {x : α} {v : Value} (h : RV E pk w S x v) (hS : ∀ k, S k → T k) : RV E pk w T x v := by
  obtain ⟨cs, hv, hc⟩ := h; exact ⟨cs, hv, E.mono hS hc⟩
theorem RV.any {S : Nat → Prop} {w : World} {x : α} {v : Value} (h : RV E pk w S x v) : RV E pk w any x v := h.mono (fun _ _ => trivial)
theorem RV.under {S : Nat → Prop} {w : World} {x : α} {v : Value} (h : RV E pk w S x v) : RV E pk w (fun k => k < w.heap.size) x v := by
  obtain ⟨cs, hv, hc⟩ := h; exact ⟨cs, hv, E.mono (fun _ h => h.2) (E.lt hc)⟩
theorem FV.keep {w w' : World} {x : α} {v : Value} {fp : List Nat} (h : FV E pk w x v fp) (hk : ∀ b ∈ fp, ∀ o, w'.cell? ⟨b, o, none⟩ = w.cell? ⟨b, o, none⟩) : FV E pk w' x v fp := by
  obtain ⟨cs, hv, hc⟩ := h; exact ⟨cs, hv, E.keep hc hk⟩
theorem FV.rv {w : World} {x : α} {v : Value} {fp : List Nat} (h : FV E pk w x v fp) : RV E pk w Go.Proofs.Ytgfnmhfdmmnaoaa.any x v := by
  obtain ⟨cs, hv, hc⟩ := h; exact ⟨cs, hv, E.toR hc (fun _ _ => trivial)⟩
theorem FV.grow {w w' : World} {x : α} {v : Value} {fp : List Nat} {A Z : Nat} (h : FV E pk w x v fp) (hs : Seg A Z w fp) (hg : Grow w w') : FV E pk w' x v fp := h.keep (hg.keeps hs.1 (fun _ _ h => h))
theorem Seg.rv {A Z Y : Nat} {w0 w w' : World} {fp : List Nat} {x : α} {v : Value} (h : Seg A Z w0 fp) (hs : RV E pk w (fun k => k < Y) x v) (he : Ext (inl fp) w w') (hd : Y ≤ A) : RV E pk w' (fun k => k < Y) x v :=
  hs.ext he (fun k hk hi => by have h4 := (h.1.2 k hi).1; omega)
end
theorem node_open {w : World} {S : Nat → Prop} {x : Nd} {v : Value} (h : RV nodeRep packA w S x v) : NodeR w S x v := by
  obtain ⟨cs, rfl, na, nc, ka, kc, rfl, hs⟩ := h; exact ⟨na, nc, ka, kc, rfl, hs⟩
theorem node_shut {w : World} {S : Nat → Prop} {x : Nd} {v : Value} (h : NodeR w S x v) : RV nodeRep packA w S x v := by
  obtain ⟨na, nc, ka, kc, rfl, hs⟩ := h; exact ⟨_, rfl, na, nc, ka, kc, rfl, hs⟩
theorem uSzN (x : Nd) (v : Value) (left : Int) (w : World) (h0 : 0 ≤ left) (h1 : left ≤ 1048576) (h : RV nodeRep packA w any x v) :
    Calls Try.prog 29 #[v, .int .i64 left] w fun e w' => e = .returned (.int .i64 (szR (costN x) left)) ∧ Grow w w' := szNode_ok x v left w h0 h1 (node_open h)
theorem uToN (x : Nd) (v : Value) (w : World) (hc : costN x ≤ 1048576) (h : RV nodeRep packA w any x v) :
    Calls Try.prog 32 #[v] w fun e w' => ∃ v' fp, e = .returned v' ∧ Grow w w' ∧ FV nodeRep packA w' x v' fp ∧ Free w.heap.size w' fp :=
  (toNode_ok x v w hc (node_open h)).mono fun e w' ⟨v', fp, he, hg, ⟨na, nc, ka, kc, hv, hF⟩, hfr⟩ => ⟨v', fp, he, hg, ⟨_, hv, na, nc, ka, kc, rfl, hF⟩, hfr⟩
theorem uEqN (x : Nd) (v u : Value) (w : World) (h : RV nodeRep packA w any x v) (h' : RV nodeRep packA w any x u) :
    Calls Try.prog 23 #[v, u] w fun e w' => e = .returned (.bool true) ∧ Grow w w' :=
  (eqNode_ok x x v u w (node_open h) (node_open h')).mono fun e w' ⟨he, hg⟩ => ⟨by rw [he, eqN_refl], hg⟩
theorem uMarkN (x : Nd) (v : Value) (fp : List Nat) (B k : Nat) (i : Int) (w : World) (hi : i = (k : Int)) (hF : FV nodeRep packA w x v fp) (hfr : Free B w fp) (h1 : 0 < k) (h2 : k + cntT x ≤ 1000000000) :
    Calls Try.prog 26 #[v, .int .i64 i] w fun e w' => e = .returned (.int .i64 ((k + cntT x : Nat) : Int)) ∧ Ext (inl fp) w w' ∧ Free B w' fp ∧ FV nodeRep packA w' (mkT k x) v fp := by
  obtain ⟨cs, rfl, na, nc, ka, kc, rfl, hs⟩ := hF
  refine (markNode_ok x na nc ka kc fp B k i w hi hs hfr h1 h2).mono fun e w' ⟨he, hx, hf, hF⟩ => ⟨he, hx, hf, _, rfl, na, nc, ka, kc, ?_, hF⟩
  unfold nodeL mkT
  simp only [mkS_len, mkL_len]
theorem uHeldN (x : Nd) (v : Value) (k : Nat) (i : Int) (w : World) (hi : i = (k : Int)) (h : RV nodeRep packA w any (mkT k x) v) (h1 : 0 < k) (h2 : k + cntT x ≤ 1000000000) :
    Calls Try.prog 27 #[v, .int .i64 i] w fun e w' => e = .returned (.int .i64 ((k + cntT x : Nat) : Int)) ∧ Grow w w' := by
  obtain ⟨na, nc, ka, kc, rfl, hs⟩ := node_open h
  exact heldNode_ok x na nc ka kc k i w hi ⟨na, nc, ka, kc, rfl, hs⟩ h1 h2
end Go.Proofs.Ytgfnmhfdmmnaoaa
namespace Go.Proofs.Ytgfnmhfdmmnaoaa.Eng
open Go Go.RowKit
structure Lb where
  kind : Int
  num : Int
  text : ByteArray
  names : List ByteArray
  nb : Nat
  kids : List Lb
  kb : Nat
theorem Lb.ind' (P : Lb → Prop) (h : ∀ n : Lb, (∀ k ∈ n.kids, P k) → P n) : ∀ n, P n := by
  intro n
  refine Lb.rec (motive_1 := P) (motive_2 := fun l => ∀ k ∈ l, P k) ?_ ?_ ?_ n
  · intro kind num text names nb kids kb ih
    exact h _ ih
  · intro k hk; cases hk
  · intro k ks h1 h2 x hx
    rcases List.mem_cons.1 hx with rfl | hx
    · exact h1
    · exact h2 _ hx
mutual
def Lb.nd : Lb → Nd
  | ⟨kind, num, text, names, _, kids, _⟩ => ⟨kind, num, text, names, Lb.nds kids⟩
def Lb.nds : List Lb → List Nd
  | [] => []
  | k :: ks => Lb.nd k :: Lb.nds ks
end
theorem nds_map : ∀ (ks : List Lb), Lb.nds ks = ks.map Lb.nd
  | [] => by unfold Lb.nds; rfl
  | k :: ks => by unfold Lb.nds; rw [nds_map ks]; rfl
theorem nd_eq (n : Lb) : n.nd = ⟨n.kind, n.num, n.text, n.names, n.kids.map Lb.nd⟩ := by cases n; unfold Lb.nd; rw [nds_map]
mutual
def labL : Lb → List AV
  | ⟨kind, num, text, names, nb, kids, kb⟩ => [.int .i64 kind, .int .i64 num, .str text, .view (.fr nb) 1 (strsE names), .view (.fr kb) 5 (labsL kids)]
def labsL : List Lb → List (List AV)
  | [] => []
  | k :: ks => labL k :: labsL ks
end
def labA (n : Lb) : AV := .agg (labL n)
theorem labsL_map : ∀ (ks : List Lb), labsL ks = ks.map labL
  | [] => by unfold labsL; rfl
  | k :: ks => by unfold labsL; rw [labsL_map ks]; rfl
theorem labL_eq (n : Lb) : labL n = [.int .i64 n.kind, .int .i64 n.num, .str n.text, .view (.fr n.nb) 1 (strsE n.names), .view (.fr n.kb) 5 (n.kids.map labL)] := by
  cases n; unfold labL; rw [labsL_map]
theorem labL_len (n : Lb) : (labL n).length = 5 := by rw [labL_eq]; rfl
theorem labL_pur : ∀ (n : Lb), ∀ c ∈ labL n, Pur c := Lb.ind' _ (fun n ih c hc => by
  rw [labL_eq] at hc
  simp only [List.mem_cons, List.not_mem_nil, or_false] at hc
  rcases hc with rfl | rfl | rfl | rfl | rfl
  · exact pur_int
  · exact pur_int
  · exact pur_str
  · exact pur_view (by simp) (strsE_pur _)
  · refine pur_view (by simp) (fun e he c hc => ?_)
    rw [List.mem_map] at he
    obtain ⟨k, hk, rfl⟩ := he
    exact ih k hk c hc)
theorem lab_pur (n : Lb) : Pur (labA n) := pur_agg (labL_pur n)
theorem lab_clo (n : Lb) : Clo (labA n) := (lab_pur n).clo
theorem labsE_pur (ks : List Lb) : ∀ e ∈ ks.map labL, ∀ c ∈ e, Pur c := fun e he c hc => by
  rw [List.mem_map] at he
  obtain ⟨k, hk, rfl⟩ := he
  exact labL_pur k c hc
theorem labL_in {U : Nat → Bool} : ∀ (n : Lb), ∀ c ∈ labL n, AV.In U c := Lb.ind' _ (fun n ih c hc => by
  rw [labL_eq] at hc
  simp only [List.mem_cons, List.not_mem_nil, or_false] at hc
  rcases hc with rfl | rfl | rfl | rfl | rfl
  · exact in_int
  · exact in_int
  · exact in_str
  · exact in_view.2 (strsE_in _)
  · refine in_view.2 (fun e he c hc => ?_)
    rw [List.mem_map] at he
    obtain ⟨k, hk, rfl⟩ := he
    exact ih k hk c hc)
theorem lab_in {U : Nat → Bool} (n : Lb) : AV.In U (labA n) := in_agg.2 (labL_in n)
theorem labsE_in {U : Nat → Bool} (ks : List Lb) : ∀ e ∈ ks.map labL, ∀ c ∈ e, AV.In U c := fun e he c hc => by
  rw [List.mem_map] at he
  obtain ⟨k, hk, rfl⟩ := he
  exact labL_in k c hc
theorem labL_sub {id m : Nat} {c : AV} (n : Lb) : AV.subL id m c (labL n) = labL n := by rw [labL_eq]; simp [AV.subL, AV.sub]
theorem labsE_sub {id m : Nat} {c : AV} (ks : List Lb) : (ks.map labL).map (AV.subL id m c) = ks.map labL := by
  rw [List.map_map]; exact List.map_congr_left (fun k _ => labL_sub k)
def Lb.fp (n : Lb) : List Nat := atL (labL n)
theorem at_strsE : ∀ (xs : List ByteArray), atE (strsE xs) = []
  | [] => by unfold strsE; rw [List.map_nil, atE_nil]
  | x :: xs => by
    have := at_strsE xs
    unfold strsE at this ⊢
    rw [List.map_cons, atE_cons, this, atL_cons, at_str, atL_nil]; rfl
theorem atE_labs : ∀ (ks : List Lb), atE (ks.map labL) = ks.flatMap Lb.fp
  | [] => by rw [List.map_nil, atE_nil]; rfl
  | k :: ks => by rw [List.map_cons, atE_cons, atE_labs ks]; rfl
theorem fp_eq (n : Lb) : n.fp = frB (.fr n.nb) n.names.isEmpty ++ (frB (.fr n.kb) n.kids.isEmpty ++ n.kids.flatMap Lb.fp) := by
  have e1 : (strsE n.names).isEmpty = n.names.isEmpty := by unfold strsE; cases n.names <;> rfl
  have e2 : (n.kids.map labL).isEmpty = n.kids.isEmpty := by cases n.kids <;> rfl
  show atL (labL n) = _
  rw [labL_eq, atL_cons, atL_cons, atL_cons, atL_cons, atL_cons, atL_nil, at_int, at_int, at_str, at_view, at_view, at_strsE, atE_labs, e1, e2]
  simp
theorem at_lab (n : Lb) : atB (labA n) = n.fp := by unfold labA Lb.fp; rw [at_agg]
theorem labL_wk : ∀ (n : Lb), WkL (labL n) (nodeL n.nd) := Lb.ind' _ (fun n ih => by
  rw [labL_eq, nd_eq, nodeL_eq]
  dsimp only
  refine .cons (Wk.refl _) (.cons (Wk.refl _) (.cons (Wk.refl _) (.cons (Wk.loose (by simp)) (.cons (Wk.view (by simp) ?_) .nil))))
  have aux : ∀ ks : List Lb, (∀ k ∈ ks, WkL (labL k) (nodeL k.nd)) → WkE (ks.map labL) ((ks.map Lb.nd).map nodeL) := fun ks h => by
    induction ks with
    | nil => exact .nil
    | cons k ks ih2 => exact .cons (h k (by simp)) (ih2 (fun x hx => h x (by simp [hx])))
  exact aux _ (fun k hk => ih k hk))
section
variable {w : World} {ρ : Cx}
theorem strsF_of_rep {g : Nat} {xs : List ByteArray} {a : Option Addr} {c : Nat} (h : Rep w ρ (.view (.fr g) 1 (strsE xs)) (.slice a xs.length c)) : StrsF w a c xs (frB (.fr g) xs.isEmpty) := by
  obtain ⟨a', c', h1, _, h3, h4, h5, h6⟩ := rep_view.1 h
  rw [strsE_len] at *
  cases h1
  have hsz : ∀ x ∈ xs, x.size ≤ big := by
    rcases h6 with h6 | ⟨b, o, ha, hb, he⟩
    · unfold strsE at h6
      rw [List.map_eq_nil_iff.1 h6]
      exact fun x hx => by cases hx
    · intro x hx
      obtain ⟨i, hi, rfl⟩ := List.getElem_of_mem hx
      obtain ⟨u, q1, _, q3⟩ := (he.get h5 (i := i) (e := [.str xs[i]]) (by rw [strsE_get, List.getElem?_eq_getElem hi]; rfl)).get (i := 0) rfl
      exact (rep_str.1 q3).2
  refine ⟨h3, h4, hsz, ?_⟩
  by_cases hne : xs = []
  · subst hne; exact .inl ⟨rfl, rfl⟩
  · rcases h6 with h6 | ⟨b, o, ha, hb, he⟩
    · unfold strsE at h6
      exact absurd (List.map_eq_nil_iff.1 h6) hne
    · obtain ⟨_, rfl, _⟩ := hb
      refine .inr ⟨b, o, hne, ha, ?_, fun i hi => ?_⟩
      · cases xs with
        | nil => exact absurd rfl hne
        | cons x xs => rfl
      · obtain ⟨u, q1, _, q3⟩ := (he.get h5 (i := i) (e := [.str xs[i]]) (by rw [strsE_get, List.getElem?_eq_getElem hi]; rfl)).get (i := 0) rfl
        rw [(rep_str.1 q3).1] at q1
        simpa using q1
theorem kidsF_of_rep {b : Nat} : ∀ {ks : List Lb} {o : Nat}, (∀ k ∈ ks, ∀ (ρ : Cx) na nc ka kc, k.text.size ≤ big → Rep w ρ (.view (.fr k.nb) 1 (strsE k.names)) (.slice na k.names.length nc) → Rep w ρ (.view (.fr k.kb) 5 (k.kids.map labL)) (.slice ka k.kids.length kc) → NodeF w k.nd na nc ka kc k.fp) →
    RepE w ρ b o (ks.map labL) → KidsF w b o (ks.map Lb.nd) (ks.flatMap Lb.fp)
  | [], _, _, _ => by unfold KidsF; rfl
  | k :: ks, o, ih, h => by
    rw [List.map_cons] at h
    unfold RepE at h
    obtain ⟨h1, h2⟩ := h
    rw [labL_len] at h2
    rw [labL_eq] at h1
    obtain ⟨v0, p0, _, q0⟩ := h1.get (i := 0) rfl
    obtain ⟨v1, p1, _, q1⟩ := h1.get (i := 1) rfl
    obtain ⟨v2, p2, _, q2⟩ := h1.get (i := 2) rfl
    obtain ⟨v3, p3, _, q3⟩ := h1.get (i := 3) rfl
    obtain ⟨v4, p4, _, q4⟩ := h1.get (i := 4) rfl
    rw [rep_int] at q0 q1
    obtain ⟨q2, q2'⟩ := rep_str.1 q2
    obtain ⟨na, nc, r3, _⟩ := rep_view.1 q3
    obtain ⟨ka, kc, r4, _⟩ := rep_view.1 q4
    rw [strsE_len] at r3
    rw [List.length_map] at r4
    subst q0 q1 q2 r3 r4
    rw [List.map_cons, List.flatMap_cons]
    unfold KidsF
    have e := nd_eq k
    refine ⟨k.fp, ks.flatMap Lb.fp, rfl, ⟨na, nc, ka, kc, ?_, ?_, ?_, ?_, ?_, ih k (by simp) ρ na nc ka kc q2' q3 q4⟩, kidsF_of_rep (fun x hx => ih x (by simp [hx])) h2⟩
    · rw [e]; exact p0
    · rw [e]; exact p1
    · rw [e]; exact p2
    · rw [e]; exact p3
    · rw [e]; dsimp only; rw [List.length_map]; exact p4
theorem nodeF_of_rep : ∀ (n : Lb) (ρ : Cx) na nc ka kc, n.text.size ≤ big → Rep w ρ (.view (.fr n.nb) 1 (strsE n.names)) (.slice na n.names.length nc) → Rep w ρ (.view (.fr n.kb) 5 (n.kids.map labL)) (.slice ka n.kids.length kc) → NodeF w n.nd na nc ka kc n.fp :=
  Lb.ind' _ (fun n ih ρ na nc ka kc h0 h1 h2 => by
    have s1 := strsF_of_rep h1
    obtain ⟨a', c', g1, _, g3, g4, g5, g6⟩ := rep_view.1 h2
    rw [List.length_map] at *
    cases g1
    rw [nd_eq, fp_eq]
    refine NodeF.mk h0 s1 ⟨by rw [List.length_map]; exact g3, by rw [List.length_map]; exact g4, ?_⟩
    by_cases hne : n.kids = []
    · left
      rw [hne]
      exact ⟨rfl, rfl⟩
    · right
      rcases g6 with g6 | ⟨b, o, ha, hb, he⟩
      · exact absurd (List.map_eq_nil_iff.1 g6) hne
      · obtain ⟨_, rfl, _⟩ := hb
        refine ⟨n.kb, o, n.kids.flatMap Lb.fp, fun h => hne (List.map_eq_nil_iff.1 h), ha, ?_, kidsF_of_rep ih he⟩
        cases hk : n.kids with
        | nil => exact absurd hk hne
        | cons x xs => rfl)
theorem fv_of_rep {n : Lb} {v : Value} (h : Rep w ρ (labA n) v) : FV nodeRep packA w n.nd v n.fp := by
  unfold labA at h
  rw [labL_eq] at h
  obtain ⟨vs, rfl, _, h2⟩ := rep_agg.1 h
  obtain ⟨v0, p0, q0⟩ := h2.get (i := 0) rfl
  obtain ⟨v1, p1, q1⟩ := h2.get (i := 1) rfl
  obtain ⟨v2, p2, q2⟩ := h2.get (i := 2) rfl
  obtain ⟨v3, p3, q3⟩ := h2.get (i := 3) rfl
  obtain ⟨v4, p4, q4⟩ := h2.get (i := 4) rfl
  rw [rep_int] at q0 q1
  obtain ⟨q2, q2'⟩ := rep_str.1 q2
  obtain ⟨na, nc, r3, _⟩ := rep_view.1 q3
  obtain ⟨ka, kc, r4, _⟩ := rep_view.1 q4
  rw [strsE_len] at r3
  rw [List.length_map] at r4
  subst q0 q1 q2 r3 r4
  have hl := h2.length
  simp only [List.length_cons, List.length_nil] at hl
  refine ⟨vs, rfl, na, nc, ka, kc, ?_, nodeF_of_rep n ρ na nc ka kc q2' q3 q4⟩
  rw [nd_eq]
  unfold Go.Proofs.Ytgfnmhfdmmnaoaa.nodeL
  dsimp only
  rw [List.length_map]
  apply List.ext_getElem?
  intro i
  rcases i with _ | _ | _ | _ | _ | i
  · exact p0
  · exact p1
  · exact p2
  · exact p3
  · exact p4
  · rw [List.getElem?_eq_none (by omega), List.getElem?_eq_none (by simp)]
end
end Go.Proofs.Ytgfnmhfdmmnaoaa.Eng
-- EV: fresh
namespace Go.Proofs.Ytgfnmhfdmmnaoaa.Eng
open Go Go.RowKit
attribute [local simp] big size_mk ASt.pay Option.map_map Function.comp_def awant aop acall ado aev ofVal ofVal0 ASt.put ASt.add ASt.turn ASt.kill abox aalloc astore aload aloadD astoreD idOf ASt.at cellsTo afieldAddr afield aindexAddr aindex alen abin aint acmp astr aun apick aextract anil aslice abound abuild afill abuildSlice asCells aps avCells over upd aappend asrc amax amin aconv mkSt slots rowsOf_cons rowsOf_nil usedOf_cons usedOf_nil ZK.av List.replicate ASt.back ASt.addL ASt.killL nodeA nodeT nodeTL_eq nodeL_eq strsE_get strsE_len intsE_get intsE_len strsE_at intsE_at tab2 tab3 tab4 tab5 tab6 tab7 tab8 tab9 tab10 tab11 tab12 tab13 tab14 tab15 tab16 tab17 tab18 tab19 tab21 tab22 tab23 tab24 tab25 tab26 tab27 tab28 tab29 tab30 tab39 tab40 tab41 tab42 tab43 tab47 tab48 tab55 tab56 tab57 tab60 tab61 tab62 tab73 tab74 tab75 tab85 tab92 tab115 tab116 tab143 tab144 tab145 tab154 tab155 tab170 tab175 tab182 tab197 tab198 tab203 tab204 tab205 tab207 tab208 tab209
def labsR (ks : List Lb) : Row := ⟨false, 30, 5, ks.map labL⟩
def rLab (n : Nd) (r : AV) : Prop := ∃ l : Lb, l.nd = n ∧ l.fp.Nodup ∧ r = labA l
def rLabX (n : Nd) (r : AV) : Prop := ∃ l : Lb, l.nd = n ∧ l.fp.Nodup ∧ r = .agg [.int .i64 l.kind, .int .i64 l.num, .str l.text, .view (.fr l.nb) 1 (strsE l.names), .view (.fr l.kb) 5 (l.kids.map labL)]
theorem rLab_X {n : Nd} {r : AV} (h : rLab n r) : rLabX n r := by
  obtain ⟨l, h1, h2, rfl⟩ := h
  exact ⟨l, h1, h2, by unfold labA; rw [labL_eq]⟩
def partF (ls : List Lb) (m : Nat) : List (List AV) := ls.map labL ++ List.replicate (m - ls.length) zeroN
theorem partF_len (ls : List Lb) (m : Nat) (h : ls.length ≤ m) : (partF ls m).length = m := by unfold partF; simp; omega
theorem partF_get (ls : List Lb) (m : Nat) (h : ls.length < m) : (partF ls m)[ls.length]? = some [.int .i64 0, .int .i64 0, .str ⟨#[]⟩, .view .tight 0 [], .view .tight 0 []] := by
  unfold partF
  rw [List.getElem?_append_right (by simp), List.length_map, Nat.sub_self, List.getElem?_replicate, if_pos (by omega)]
  rfl
theorem partF_set (ls : List Lb) (m : Nat) (h : ls.length < m) (l : Lb) : (partF ls m).set ls.length (labL l) = partF (ls ++ [l]) m := by
  unfold partF
  rw [List.set_append_right _ _ (by simp), List.length_map, Nat.sub_self]
  have : m - ls.length = (m - (ls ++ [l]).length) + 1 := by rw [List.length_append, List.length_singleton]; omega
  rw [this, List.replicate_succ, List.set_cons_zero, List.map_append, List.append_assoc]
  rfl
theorem partF_in {U : Nat → Bool} (ls : List Lb) (m : Nat) : ∀ e ∈ partF ls m, ∀ c ∈ e, AV.In U c := by
  intro e he c hc
  unfold partF at he
  rcases List.mem_append.1 he with he | he
  · exact labsE_in ls e he c hc
  · rw [List.eq_of_mem_replicate he] at hc
    simp only [zeroN, List.mem_cons, List.not_mem_nil, or_false] at hc
    rcases hc with rfl | rfl | rfl | rfl | rfl
    · exact in_int
    · exact in_int
    · exact in_str
    · exact in_vnil
    · exact in_vnil
theorem at_zeroN : atL zeroN = [] := by
  unfold zeroN
  simp only [atL_cons, atL_nil, at_int, at_str, at_view, atE_nil, frB_tight, List.append_nil]
theorem at_partF (ls : List Lb) (m : Nat) : atE (partF ls m) = ls.flatMap Lb.fp := by
  unfold partF
  rw [atE_app, atE_labs]
  have : ∀ k, atE (List.replicate k zeroN) = [] := fun k => by
    induction k with
    | zero => rw [List.replicate_zero, atE_nil]
    | succ k ih => rw [List.replicate_succ, atE_cons, ih, at_zeroN]; rfl
  rw [this, List.append_nil]
theorem fp_nodup {l : Lb} (h : (l.kids.flatMap Lb.fp).Nodup) (f1 : ∀ b ∈ l.kids.flatMap Lb.fp, l.nb ≠ b) (f2 : ∀ b ∈ l.kids.flatMap Lb.fp, l.kb ≠ b) (f3 : l.names ≠ [] → l.kids ≠ [] → l.kb ≠ l.nb) : l.fp.Nodup := by
  rw [fp_eq, frB_fr, frB_fr]
  refine List.nodup_append.2 ⟨by split <;> simp, List.nodup_append.2 ⟨by split <;> simp, h, fun a ha b hb e => ?_⟩, fun a ha b hb e => ?_⟩
  · split at ha <;> simp at ha
    exact f2 b hb (by rw [← ha, e])
  · rcases List.mem_append.1 hb with hb | hb
    · split at ha <;> split at hb <;> simp at ha hb
      rename_i q1 q2
      exact f3 (fun h => by rw [h] at q1; simp at q1) (fun h => by rw [h] at q2; simp at q2) (by rw [← ha, ← hb, e])
    · split at ha <;> simp at ha
      exact f1 b hb (by rw [← ha, e])
theorem fp_ge {l : Lb} {B : Nat} (h : ∀ b ∈ l.kids.flatMap Lb.fp, B ≤ b) (g1 : B ≤ l.nb) (g2 : B ≤ l.kb) : ∀ b ∈ l.fp, B ≤ b := by
  intro b hb
  rw [fp_eq, frB_fr, frB_fr] at hb
  rcases List.mem_append.1 hb with hb | hb
  · split at hb <;> simp at hb
    rw [hb]; exact g1
  · rcases List.mem_append.1 hb with hb | hb
    · split at hb <;> simp at hb
      rw [hb]; exact g2
    · exact h b hb
theorem lab_ex : ∀ (n : Nd) (N : Nat), ∃ (l : Lb) (M : Nat), l.nd = n ∧ l.fp.Nodup ∧ N ≤ M ∧ ∀ b ∈ l.fp, N ≤ b ∧ b < M := Nd.ind' _ (fun n ih N => by
  have aux : ∀ (ks : List Nd), (∀ k ∈ ks, ∀ N, ∃ (l : Lb) (M : Nat), l.nd = k ∧ l.fp.Nodup ∧ N ≤ M ∧ ∀ b ∈ l.fp, N ≤ b ∧ b < M) → ∀ N, ∃ (ls : List Lb) (M : Nat), ls.map Lb.nd = ks ∧ (ls.flatMap Lb.fp).Nodup ∧ N ≤ M ∧ ∀ b ∈ ls.flatMap Lb.fp, N ≤ b ∧ b < M := by
    intro ks
    induction ks with
    | nil => exact fun _ N => ⟨[], N, rfl, by simp, Nat.le_refl _, by simp⟩
    | cons k ks ih2 =>
      intro h N
      obtain ⟨l, M, h1, h2, h3, h4⟩ := h k (by simp) N
      obtain ⟨ls, M', g1, g2, g3, g4⟩ := ih2 (fun x hx => h x (by simp [hx])) M
      refine ⟨l :: ls, M', by rw [List.map_cons, h1, g1], ?_, by omega, ?_⟩
      · rw [List.flatMap_cons]
        exact List.nodup_append.2 ⟨h2, g2, fun a ha b hb e => by have := (h4 a ha).2; have := (g4 b hb).1; omega⟩
      · intro b hb
        rw [List.flatMap_cons] at hb
        rcases List.mem_append.1 hb with hb | hb
        · have := h4 b hb; omega
        · have := g4 b hb; omega
  obtain ⟨ls, M, h1, h2, h3, h4⟩ := aux n.kids ih (N + 2)
  refine ⟨⟨n.kind, n.num, n.text, n.names, N, ls, N + 1⟩, M, by rw [nd_eq]; dsimp only; rw [h1]; cases n; rfl, ?_, by omega, ?_⟩
  · rw [fp_eq, frB_fr, frB_fr]
    dsimp only
    refine List.nodup_append.2 ⟨by split <;> simp, List.nodup_append.2 ⟨by split <;> simp, h2, fun a ha b hb e => ?_⟩, fun a ha b hb e => ?_⟩
    · have := (h4 b hb).1
      split at ha <;> simp at ha
      omega
    · rcases List.mem_append.1 hb with hb | hb
      · split at ha <;> split at hb <;> simp at ha hb
        omega
      · have := (h4 b hb).1
        split at ha <;> simp at ha
        omega
  · intro b hb
    rw [fp_eq, frB_fr, frB_fr] at hb
    dsimp only at hb
    rcases List.mem_append.1 hb with hb | hb
    · split at hb <;> simp at hb
      omega
    · rcases List.mem_append.1 hb with hb | hb
      · split at hb <;> simp at hb
        omega
      · have := h4 b hb; omega)
theorem rLabX_ex (n : Nd) {A : Nat → Prop} {N : Nat} (hN : ∀ b, A b → b < N) : ∃ r, (rLabX n r ∧ ∀ b ∈ atB r, ¬ A b) ∧ NoId r := by
  obtain ⟨l, M, h1, h2, _, h4⟩ := lab_ex n N
  have hr : rLab n (labA l) := ⟨l, h1, h2, rfl⟩
  exact ⟨labA l, ⟨rLab_X hr, fun b hb ha => by rw [at_lab] at hb; have := (h4 b hb).1; have := hN b ha; omega⟩, lab_in l⟩
theorem nodup_snoc {ls : List Lb} {l : Lb} (h : (ls.flatMap Lb.fp).Nodup) (k : l.fp.Nodup) (ha : ∀ b ∈ l.fp, ¬ b ∈ ls.flatMap Lb.fp) : ((ls ++ [l]).flatMap Lb.fp).Nodup := by
  rw [List.flatMap_append, List.flatMap_cons, List.flatMap_nil, List.append_nil]
  exact List.nodup_append.2 ⟨h, k, fun a h1 b h2 e => ha b h2 (e ▸ h1)⟩
theorem implCopyF_hold (n : Nd) (hs : Sml n) (ih : ∀ k ∈ n.kids, ACF Try.prog 75 [nodeA k] 0 (rLabX k)) : ACF Try.prog 75 [nodeA n] 0 (rLabX n) := by
  have hs1 := hs.names
  have hs2 := hs.kids
  unfold nodeA at ih ⊢
  rw [nodeL_eq]
  refine ACF.of tab_ok mixed_ok Try.func75 (by rfl) (by kernel_rfl) ?_; rintro ⟨P, T, hT, hm, w0, S0, rd0, k0⟩ hP hTT hN; dsimp only at hP hTT hN; subst hP hTT; dsimp only; unfold initSt; rw [Try.ntmps75]
  refine AW.seq ?_
  (refine AW.regionK [] (fun K hK => ?_); (repeat (refine arun_ks 4 rfl (fun C hC => ?_); (repeat ((conv => whnf); simp)); refine hC _ ?_; clear hC C; simp only [List.drop_succ_cons, List.drop_zero, List.drop_nil])); refine arun_nil ?_; refine hK _ ?_; clear hK K; simp only [thenA_normal, inBlockA_normal, endQ_normal, endR_normal])
  refine AW.seq ?_
  (refine AW.regionK [] (fun K hK => ?_); (repeat (refine arun_ks 4 rfl (fun C hC => ?_); (repeat ((conv => whnf); simp)); refine hC _ ?_; clear hC C; simp only [List.drop_succ_cons, List.drop_zero, List.drop_nil])); refine arun_nil ?_; refine hK _ ?_; clear hK K; simp only [thenA_normal, inBlockA_normal, endQ_normal, endR_normal])
  refine AW.seq ?_
  refine AW.cutN (fun (_ : Unit) => mkSt (slots 0 52 [(1, .ptr true 5 1 1 0 0), (2, .ptr true 5 1 2 0 0), (3, .ptr true 5 1 3 0 0)]) [(1, ⟨true, 30, 5, [[.int .i64 n.kind, .int .i64 n.num, .str n.text, .view .loose 1 (strsE n.names), .view .loose 5 (n.kids.map nodeL)]]⟩), (2, ⟨true, 30, 5, [zeroN]⟩), (3, ⟨true, 30, 5, [[.int .i64 n.kind, .int .i64 n.num, .str n.text, .own 20 n.names.length, .view .tight 0 []]]⟩), (20, namesR n.names)] [1, 2, 3, 20] (rd0.map fun _ => 0)) (fun _ => True) ?_ ?_
  · by_cases hn0 : 0 < n.names.length
    · (repeat (first | with_reducible refine AW.seq ?_ | ((first | refine arun_kn 4 rfl (fun C hC => ?_) | refine arunD_kn 4 rfl (fun C hC => ?_)); (repeat ((conv => whnf); simp [hn0])); refine hC _ ?_; clear hC C; simp only [List.drop, Nat.reduceAdd]) | ((first | refine arun_kn 1 rfl (fun C hC => ?_) | refine arunD_kn 1 rfl (fun C hC => ?_)); (repeat ((conv => whnf); simp [hn0])); refine hC _ ?_; clear hC C; simp only [List.drop, Nat.reduceAdd]) | (refine arun_skip ?_ ?_; (focus (simp [awant, hn0]; done))) | (refine AW.regionK [] (fun K hK => ?_)) | (refine AW.regionDK [] (pcs [] []) (by kernel_rfl) (by kernel_rfl) (fun K hK => ?_)) | (refine AW.condT ?_ ?_; (focus (simp [aev, hn0]; done))) | (refine AW.condF ?_ ?_; (focus (simp [aev, hn0]; done))) | with_reducible refine AW.block ?_ | ((first | ((first | refine arun_nil ?_ | refine arunD_nil ?_); refine hK _ ?_; clear hK K) | refine AW.skip ?_ | refine AW.exit ?_ | refine AW.ret ?_); simp only [thenA_exit, inBlockA_exit, if_true, if_false, Nat.reduceEqDiff, thenA_normal, inBlockA_normal, reduceIte, thenA_ret, inBlockA_ret, endQ_ret, endR_ret, endG_ret, endQ_normal, endR_normal, endG_normal, endF_ret, endF_normal])))
      refine arun_make 20 rfl (by simp [awant]) rfl tab23 tab9 (by decide) rfl (by dsimp only; omega) (by unfold maxLen; omega) (by simp [upd]) ?_
      (repeat (first | with_reducible refine AW.seq ?_ | ((first | refine arun_kn 4 rfl (fun C hC => ?_) | refine arunD_kn 4 rfl (fun C hC => ?_)); (repeat ((conv => whnf); simp [hn0])); refine hC _ ?_; clear hC C; simp only [List.drop, Nat.reduceAdd]) | ((first | refine arun_kn 1 rfl (fun C hC => ?_) | refine arunD_kn 1 rfl (fun C hC => ?_)); (repeat ((conv => whnf); simp [hn0])); refine hC _ ?_; clear hC C; simp only [List.drop, Nat.reduceAdd]) | (refine arun_skip ?_ ?_; (focus (simp [awant, hn0]; done))) | (refine AW.regionK [] (fun K hK => ?_)) | (refine AW.regionDK [] (pcs [] []) (by kernel_rfl) (by kernel_rfl) (fun K hK => ?_)) | (refine AW.condT ?_ ?_; (focus (simp [aev, hn0]; done))) | (refine AW.condF ?_ ?_; (focus (simp [aev, hn0]; done))) | with_reducible refine AW.block ?_ | ((first | ((first | refine arun_nil ?_ | refine arunD_nil ?_); refine hK _ ?_; clear hK K) | refine AW.skip ?_ | refine AW.exit ?_ | refine AW.ret ?_); simp only [thenA_exit, inBlockA_exit, if_true, if_false, Nat.reduceEqDiff, thenA_normal, inBlockA_normal, reduceIte, thenA_ret, inBlockA_ret, endQ_ret, endR_ret, endG_ret, endQ_normal, endR_normal, endG_normal, endF_ret, endF_normal])))
      refine arun_copyAll (r := ⟨false, 9, 1, List.replicate n.names.length [AV.str ⟨#[]⟩]⟩) rfl (by simp [awant]) rfl (by simp [upd]) rfl rfl List.length_replicate rfl (strsE_len _) tab23 tab9 rfl ?_
      (repeat (first | with_reducible refine AW.seq ?_ | ((first | refine arun_kn 4 rfl (fun C hC => ?_) | refine arunD_kn 4 rfl (fun C hC => ?_)); (repeat ((conv => whnf); simp [hn0])); refine hC _ ?_; clear hC C; simp only [List.drop, Nat.reduceAdd]) | ((first | refine arun_kn 1 rfl (fun C hC => ?_) | refine arunD_kn 1 rfl (fun C hC => ?_)); (repeat ((conv => whnf); simp [hn0])); refine hC _ ?_; clear hC C; simp only [List.drop, Nat.reduceAdd]) | (refine arun_skip ?_ ?_; (focus (simp [awant, hn0]; done))) | (refine AW.regionK [] (fun K hK => ?_)) | (refine AW.regionDK [] (pcs [] []) (by kernel_rfl) (by kernel_rfl) (fun K hK => ?_)) | (refine AW.condT ?_ ?_; (focus (simp [aev, hn0]; done))) | (refine AW.condF ?_ ?_; (focus (simp [aev, hn0]; done))) | with_reducible refine AW.block ?_ | ((first | ((first | refine arun_nil ?_ | refine arunD_nil ?_); refine hK _ ?_; clear hK K) | refine AW.skip ?_ | refine AW.exit ?_ | refine AW.ret ?_); simp only [thenA_exit, inBlockA_exit, if_true, if_false, Nat.reduceEqDiff, thenA_normal, inBlockA_normal, reduceIte, thenA_ret, inBlockA_ret, endQ_ret, endR_ret, endG_ret, endQ_normal, endR_normal, endG_normal, endF_ret, endF_normal])))
      exact ⟨(), trivial, (less_of (by simp [lessL, mkSt, slots, namesR, zeroN]) (by simp [upd, mkSt, rowsOf_cons, namesR, zeroN]) (by simp [upd, mkSt, usedOf_cons, namesR, zeroN]) (by first | exact rd_less (by omega) | simp [mkSt, namesR, zeroN]) (by simp [slots, in_any, in_int, in_bool, in_str, in_ptr, in_own, in_agg, in_vnil, in_rdr, usedOf_cons, usedOf_nil, strs_in, ints_in, nodes_in, in_tup, namesR, zeroN]) (by simp only [List.forall_mem_cons, List.not_mem_nil, false_implies, implies_true, and_true, true_and, namesR, zeroN]; (repeat (first | with_reducible exact trivial | with_reducible refine And.intro ?_ ?_ | with_reducible exact in_int | with_reducible exact in_str | with_reducible exact in_bool | with_reducible exact strs_in _ | with_reducible exact nodes_in _ | with_reducible exact items_in _ | with_reducible exact in_vnil | with_reducible exact in_any | exact hin _ | with_reducible refine take_in ?_ | with_reducible exact strsE_in _ | with_reducible exact nodesE_in _ | with_reducible exact nodeL_in _ | with_reducible exact itemsE_in _ | with_reducible exact itemL_in _ | with_reducible refine app_in ?_ ?_ | with_reducible refine sing_in ?_ | (focus (simp [in_any, in_int, in_bool, in_str, in_ptr, in_own, in_agg, in_vnil, in_rdr, usedOf_cons, usedOf_nil, strs_in, ints_in, nodes_in, namesR, zeroN]; done)))); done))⟩
    · have hl0 : n.names.length = 0 := by omega
      have he0 : n.names = [] := List.length_eq_zero_iff.1 hl0
      refine AW.adoptB 3 3 20 9 1 ⟨_, tab9, rfl⟩ (by simp [upd]; rfl) rfl rfl (by simp [upd]) ?_
      simp only [ASt.adoptB]
      (repeat (first | with_reducible refine AW.seq ?_ | ((first | refine arun_kn 4 rfl (fun C hC => ?_) | refine arunD_kn 4 rfl (fun C hC => ?_)); (repeat ((conv => whnf); simp [hl0])); refine hC _ ?_; clear hC C; simp only [List.drop, Nat.reduceAdd]) | ((first | refine arun_kn 1 rfl (fun C hC => ?_) | refine arunD_kn 1 rfl (fun C hC => ?_)); (repeat ((conv => whnf); simp [hl0])); refine hC _ ?_; clear hC C; simp only [List.drop, Nat.reduceAdd]) | (refine arun_skip ?_ ?_; (focus (simp [awant, hl0]; done))) | (refine AW.regionK [] (fun K hK => ?_)) | (refine AW.regionDK [] (pcs [] []) (by kernel_rfl) (by kernel_rfl) (fun K hK => ?_)) | (refine AW.condT ?_ ?_; (focus (simp [aev, hl0]; done))) | (refine AW.condF ?_ ?_; (focus (simp [aev, hl0]; done))) | with_reducible refine AW.block ?_ | ((first | ((first | refine arun_nil ?_ | refine arunD_nil ?_); refine hK _ ?_; clear hK K) | refine AW.skip ?_ | refine AW.exit ?_ | refine AW.ret ?_); simp only [thenA_exit, inBlockA_exit, if_true, if_false, Nat.reduceEqDiff, thenA_normal, inBlockA_normal, reduceIte, thenA_ret, inBlockA_ret, endQ_ret, endR_ret, endG_ret, endQ_normal, endR_normal, endG_normal, endF_ret, endF_normal])))
      exact ⟨(), trivial, (less_of (by simp [lessL, mkSt, slots, namesR, zeroN, he0, strsE]) (by simp [upd, mkSt, rowsOf_cons, namesR, zeroN, he0, strsE]) (by simp [upd, mkSt, usedOf_cons, namesR, zeroN, he0, strsE]) (by first | exact rd_less (by omega) | simp [mkSt, namesR, zeroN, he0, strsE]) (by simp [slots, in_any, in_int, in_bool, in_str, in_ptr, in_own, in_agg, in_vnil, in_rdr, usedOf_cons, usedOf_nil, strs_in, ints_in, nodes_in, in_tup, namesR, zeroN, he0, strsE]) (by simp only [List.forall_mem_cons, List.not_mem_nil, false_implies, implies_true, and_true, true_and, namesR, zeroN, he0, strsE]; (repeat (first | with_reducible exact trivial | with_reducible refine And.intro ?_ ?_ | with_reducible exact in_int | with_reducible exact in_str | with_reducible exact in_bool | with_reducible exact strs_in _ | with_reducible exact nodes_in _ | with_reducible exact items_in _ | with_reducible exact in_vnil | with_reducible exact in_any | exact hin _ | with_reducible refine take_in ?_ | with_reducible exact strsE_in _ | with_reducible exact nodesE_in _ | with_reducible exact nodeL_in _ | with_reducible exact itemsE_in _ | with_reducible exact itemL_in _ | with_reducible refine app_in ?_ ?_ | with_reducible refine sing_in ?_ | (focus (simp [in_any, in_int, in_bool, in_str, in_ptr, in_own, in_agg, in_vnil, in_rdr, usedOf_cons, usedOf_nil, strs_in, ints_in, nodes_in, namesR, zeroN, he0, strsE]; done)))); done))⟩
  rintro ⟨⟩ s' - hls
  refine AW.less _ hls ?_
  clear hls s'
  refine AW.seq ?_
  refine AW.cutN (fun (ks : List Lb) => mkSt (slots 0 52 [(2, .ptr true 5 1 2 0 0), (3, .ptr true 5 1 3 0 0)]) [(2, ⟨true, 30, 5, [zeroN]⟩), (3, ⟨true, 30, 5, [[.int .i64 n.kind, .int .i64 n.num, .str n.text, .own 20 n.names.length, .own 34 n.kids.length]]⟩), (20, namesR n.names), (34, labsR ks)] [2, 3, 20, 34] (rd0.map fun _ => 0)) (fun ks => ks.map Lb.nd = n.kids ∧ (ks.flatMap Lb.fp).Nodup ∧ ∀ b ∈ ks.flatMap Lb.fp, w0.wd.heap.size ≤ b) ?_ ?_
  · by_cases hn0 : 0 < n.kids.length
    · (repeat (first | with_reducible refine AW.seq ?_ | ((first | refine arun_kn 4 rfl (fun C hC => ?_) | refine arunD_kn 4 rfl (fun C hC => ?_)); (repeat ((conv => whnf); simp [hn0])); refine hC _ ?_; clear hC C; simp only [List.drop, Nat.reduceAdd]) | ((first | refine arun_kn 1 rfl (fun C hC => ?_) | refine arunD_kn 1 rfl (fun C hC => ?_)); (repeat ((conv => whnf); simp [hn0])); refine hC _ ?_; clear hC C; simp only [List.drop, Nat.reduceAdd]) | (refine arun_skip ?_ ?_; (focus (simp [awant, hn0]; done))) | (refine AW.regionK [] (fun K hK => ?_)) | (refine AW.regionDK [] (pcs [] []) (by kernel_rfl) (by kernel_rfl) (fun K hK => ?_)) | (refine AW.condT ?_ ?_; (focus (simp [aev, hn0]; done))) | (refine AW.condF ?_ ?_; (focus (simp [aev, hn0]; done))) | with_reducible refine AW.block ?_ | ((first | ((first | refine arun_nil ?_ | refine arunD_nil ?_); refine hK _ ?_; clear hK K) | refine AW.skip ?_ | refine AW.exit ?_ | refine AW.ret ?_); simp only [thenA_exit, inBlockA_exit, if_true, if_false, Nat.reduceEqDiff, thenA_normal, inBlockA_normal, reduceIte, thenA_ret, inBlockA_ret, endQ_ret, endR_ret, endG_ret, endQ_normal, endR_normal, endG_normal, endF_ret, endF_normal])))
      refine arun_make 34 rfl (by simp [awant]) rfl tab28 tab30 (by decide) rfl (by dsimp only; omega) (by unfold maxLen; omega) (by simp [upd]) ?_
      (repeat (first | with_reducible refine AW.seq ?_ | ((first | refine arun_kn 4 rfl (fun C hC => ?_) | refine arunD_kn 4 rfl (fun C hC => ?_)); (repeat ((conv => whnf); simp [hn0])); refine hC _ ?_; clear hC C; simp only [List.drop, Nat.reduceAdd]) | ((first | refine arun_kn 1 rfl (fun C hC => ?_) | refine arunD_kn 1 rfl (fun C hC => ?_)); (repeat ((conv => whnf); simp [hn0])); refine hC _ ?_; clear hC C; simp only [List.drop, Nat.reduceAdd]) | (refine arun_skip ?_ ?_; (focus (simp [awant, hn0]; done))) | (refine AW.regionK [] (fun K hK => ?_)) | (refine AW.regionDK [] (pcs [] []) (by kernel_rfl) (by kernel_rfl) (fun K hK => ?_)) | (refine AW.condT ?_ ?_; (focus (simp [aev, hn0]; done))) | (refine AW.condF ?_ ?_; (focus (simp [aev, hn0]; done))) | with_reducible refine AW.block ?_ | ((first | ((first | refine arun_nil ?_ | refine arunD_nil ?_); refine hK _ ?_; clear hK K) | refine AW.skip ?_ | refine AW.exit ?_ | refine AW.ret ?_); simp only [thenA_exit, inBlockA_exit, if_true, if_false, Nat.reduceEqDiff, thenA_normal, inBlockA_normal, reduceIte, thenA_ret, inBlockA_ret, endQ_ret, endR_ret, endG_ret, endQ_normal, endR_normal, endG_normal, endF_ret, endF_normal])))
      refine AW.loopS (fun (ls : List Lb) => mkSt (slots 0 52 [(1, .ptr true 5 1 1 0 0), (2, .ptr true 5 1 2 0 0), (3, .ptr true 5 1 3 0 0), (37, .view .loose 5 (n.kids.map nodeL)), (38, .int .i64 n.kids.length), (39, .int .i64 ls.length)]) [(1, ⟨true, 30, 5, [[.int .i64 n.kind, .int .i64 n.num, .str n.text, .view .loose 1 (strsE n.names), .view .loose 5 (n.kids.map nodeL)]]⟩), (2, ⟨true, 30, 5, [zeroN]⟩), (3, ⟨true, 30, 5, [[.int .i64 n.kind, .int .i64 n.num, .str n.text, .own 20 n.names.length, .own 34 n.kids.length]]⟩), (20, namesR n.names), (34, ⟨false, 30, 5, partF ls n.kids.length⟩)] [1, 2, 3, 20, 34] (rd0.map fun _ => 0)) (fun ls => n.kids.length - ls.length) (fun ls => ls.map Lb.nd = n.kids.take ls.length ∧ ls.length ≤ n.kids.length ∧ (ls.flatMap Lb.fp).Nodup ∧ ∀ b ∈ ls.flatMap Lb.fp, w0.wd.heap.size ≤ b) [] ?_ ⟨rfl, Nat.zero_le _, List.nodup_nil, fun b hb => by cases hb⟩ ?_
      · have hin : ∀ U : Nat → Bool, ∀ e ∈ partF [] n.kids.length, ∀ c ∈ e, AV.In U c := fun U => partF_in _ _
        have e0 : partF [] n.kids.length = List.replicate n.kids.length zeroN := rfl
        rw [e0] at hin ⊢
        exact (less_of (by simp [lessL, mkSt, slots, namesR, zeroN]) (by simp [upd, mkSt, rowsOf_cons, namesR, zeroN]) (by simp [upd, mkSt, usedOf_cons, namesR, zeroN]) (by first | exact rd_less (by omega) | simp [mkSt, namesR, zeroN]) (by simp [slots, in_any, in_int, in_bool, in_str, in_ptr, in_own, in_agg, in_vnil, in_rdr, usedOf_cons, usedOf_nil, strs_in, ints_in, nodes_in, in_tup, namesR, zeroN]) (by simp only [List.forall_mem_cons, List.not_mem_nil, false_implies, implies_true, and_true, true_and, namesR, zeroN]; (repeat (first | with_reducible exact trivial | with_reducible refine And.intro ?_ ?_ | with_reducible exact in_int | with_reducible exact in_str | with_reducible exact in_bool | with_reducible exact strs_in _ | with_reducible exact nodes_in _ | with_reducible exact items_in _ | with_reducible exact in_vnil | with_reducible exact in_any | exact hin _ | with_reducible refine take_in ?_ | with_reducible exact strsE_in _ | with_reducible exact nodesE_in _ | with_reducible exact nodeL_in _ | with_reducible exact itemsE_in _ | with_reducible exact itemL_in _ | with_reducible refine app_in ?_ ?_ | with_reducible refine sing_in ?_ | (focus (simp [in_any, in_int, in_bool, in_str, in_ptr, in_own, in_agg, in_vnil, in_rdr, usedOf_cons, usedOf_nil, strs_in, ints_in, nodes_in, namesR, zeroN]; done)))); done))
      · rintro ls ⟨hnd, hi, hnp, hge⟩
        have hpl := partF_len ls n.kids.length hi
        by_cases hlt : ls.length < n.kids.length
        · have hw : IntKind.i64.wrap ((ls.length : Int) + 1) = ((ls.length + 1 : Nat) : Int) := by rw [i64_nat (by omega) (by omega)]; simp
          have hg := partF_get ls n.kids.length hlt
          have hgd : ∀ h, (partF ls n.kids.length)[ls.length]'h = [.int .i64 0, .int .i64 0, .str ⟨#[]⟩, .view .tight 0 [], .view .tight 0 []] := fun h => by
            rw [List.getElem?_eq_getElem h] at hg; exact Option.some.inj hg
          have hik := ih n.kids[ls.length] (List.getElem_mem hlt)
          have hck := node_clo n.kids[ls.length]
          unfold nodeA at hck
          rw [nodeL_eq n.kids[ls.length]] at hik hck
          have x1 : (n.kids.map nodeL)[ls.length]? = some [.int .i64 n.kids[ls.length].kind, .int .i64 n.kids[ls.length].num, .str n.kids[ls.length].text, .view .loose 1 (strsE n.kids[ls.length].names), .view .loose 5 (n.kids[ls.length].kids.map nodeL)] := by rw [List.getElem?_map, List.getElem?_eq_getElem hlt, ← nodeL_eq]; rfl
          refine AW.noteR 34 (r := ⟨false, 30, 5, partF ls n.kids.length⟩) (by simp [mkSt, rowsOf_cons]) ?_
          have hN' := hN.note (atE (partF ls n.kids.length))
          refine AW.bound (fun N hNb => ?_)
          (repeat (first | with_reducible refine AW.seq ?_ | ((first | refine arun_kn 4 rfl (fun C hC => ?_) | refine arunD_kn 4 rfl (fun C hC => ?_)); (repeat ((conv => whnf); simp [hlt, hw, hpl, hg, hgd, x1])); refine hC _ ?_; clear hC C; simp only [List.drop, Nat.reduceAdd]) | ((first | refine arun_kn 1 rfl (fun C hC => ?_) | refine arunD_kn 1 rfl (fun C hC => ?_)); (repeat ((conv => whnf); simp [hlt, hw, hpl, hg, hgd, x1])); refine hC _ ?_; clear hC C; simp only [List.drop, Nat.reduceAdd]) | (refine arun_skip ?_ ?_; (focus (simp [awant, hlt, hw, hpl, hg, hgd, x1]; done))) | (refine AW.regionK [] (fun K hK => ?_)) | (refine AW.condT ?_ ?_; (focus (simp [aev, hlt, hw, hpl, hg, hgd, x1]; done))) | (refine AW.condF ?_ ?_; (focus (simp [aev, hlt, hw, hpl, hg, hgd, x1]; done))) | with_reducible refine AW.block ?_ | ((first | ((first | refine arun_nil ?_ | refine arunD_nil ?_); refine hK _ ?_; clear hK K) | refine AW.skip ?_ | refine AW.exit ?_ | refine AW.ret ?_); simp only [thenA_exit, inBlockA_exit, if_true, if_false, Nat.reduceEqDiff, thenA_normal, inBlockA_normal, reduceIte, thenA_ret, inBlockA_ret, endQ_ret, endR_ret, endG_ret, endQ_normal, endR_normal, endG_normal, endF_ret, endF_normal])))
          refine AW.regionDK [] (pcs [(4, 0, fun r => rLabX n.kids[ls.length] r ∧ ∀ b ∈ atB r, ¬ (w0.note (atE (partF ls n.kids.length))).A b)] []) (by kernel_rfl) (by kernel_rfl) (fun K hK => ?_)
          (repeat (first | with_reducible refine AW.seq ?_ | ((first | refine arun_kn 4 rfl (fun C hC => ?_) | refine arunD_kn 4 rfl (fun C hC => ?_)); (repeat ((conv => whnf); simp [hlt, hw, hpl, hg, hgd, x1])); refine hC _ ?_; clear hC C; simp only [List.drop, Nat.reduceAdd]) | ((first | refine arun_kn 1 rfl (fun C hC => ?_) | refine arunD_kn 1 rfl (fun C hC => ?_)); (repeat ((conv => whnf); simp [hlt, hw, hpl, hg, hgd, x1])); refine hC _ ?_; clear hC C; simp only [List.drop, Nat.reduceAdd]) | (refine arun_skip ?_ ?_; (focus (simp [awant, hlt, hw, hpl, hg, hgd, x1]; done))) | (refine arun_cF (0) (hik) ?_; (rintro _ ⟨l, hl, hlp, rfl⟩ hA)) | (refine arunD_cF (0) (hik) (by exact rLabX_ex _ hNb) ?_; (rintro _ ⟨l, hl, hlp, rfl⟩ hA); intro _) | (refine AW.regionK [] (fun K hK => ?_)) | (refine AW.regionDK [] (pcs [] []) (by kernel_rfl) (by kernel_rfl) (fun K hK => ?_)) | (refine AW.condT ?_ ?_; (focus (simp [aev, hlt, hw, hpl, hg, hgd, x1]; done))) | (refine AW.condF ?_ ?_; (focus (simp [aev, hlt, hw, hpl, hg, hgd, x1]; done))) | with_reducible refine AW.block ?_ | ((first | ((first | refine arun_nil ?_ | refine arunD_nil ?_); refine hK _ ?_; clear hK K) | refine AW.skip ?_ | refine AW.exit ?_ | refine AW.ret ?_); simp only [thenA_exit, inBlockA_exit, if_true, if_false, Nat.reduceEqDiff, thenA_normal, inBlockA_normal, reduceIte, thenA_ret, inBlockA_ret, endQ_ret, endR_ret, endG_ret, endQ_normal, endR_normal, endG_normal, endF_ret, endF_normal])))
          have hA' : ∀ b ∈ l.fp, ¬ (w0.A b ∨ b ∈ atE (partF ls n.kids.length)) := fun b hb => hA b (by rw [at_agg, ← labL_eq]; exact hb)
          have hset := partF_set ls n.kids.length hlt l
          rw [labL_eq] at hset
          have hin : ∀ U : Nat → Bool, ∀ e ∈ partF (ls ++ [l]) n.kids.length, ∀ c ∈ e, AV.In U c := fun U => partF_in _ _
          have hll : (ls ++ [l]).length = ls.length + 1 := by rw [List.length_append]; rfl
          refine ⟨ls ++ [l], by rw [hll]; omega, ⟨?_, by rw [hll]; omega, nodup_snoc hnp hlp (fun b hb hm => hA' b hb (.inr (by rw [at_partF]; exact hm))), fun b hb => ?_⟩, ?_⟩
          · rw [hll, List.take_add_one, List.getElem?_eq_getElem hlt, List.map_append, hnd, List.map_cons, List.map_nil, hl]; rfl
          · rw [List.flatMap_append, List.flatMap_cons, List.flatMap_nil, List.append_nil] at hb
            rcases List.mem_append.1 hb with hb | hb
            · exact hge b hb
            · rcases Nat.lt_or_ge b w0.wd.heap.size with h | h
              · exact absurd (.inl (hN.A b h)) (hA' b hb)
              · exact h
          · rw [hll]
            exact (less_of (by simp [lessL, mkSt, slots, namesR, zeroN, hset]) (by simp [upd, mkSt, rowsOf_cons, namesR, zeroN, hset]) (by simp [upd, mkSt, usedOf_cons, namesR, zeroN, hset]) (by first | exact rd_less (by omega) | simp [mkSt, namesR, zeroN, hset]) (by simp [slots, in_any, in_int, in_bool, in_str, in_ptr, in_own, in_agg, in_vnil, in_rdr, usedOf_cons, usedOf_nil, strs_in, ints_in, nodes_in, in_tup, namesR, zeroN, hset]) (by simp only [List.forall_mem_cons, List.not_mem_nil, false_implies, implies_true, and_true, true_and, namesR, zeroN, hset]; (repeat (first | with_reducible exact trivial | with_reducible refine And.intro ?_ ?_ | with_reducible exact in_int | with_reducible exact in_str | with_reducible exact in_bool | with_reducible exact strs_in _ | with_reducible exact nodes_in _ | with_reducible exact items_in _ | with_reducible exact in_vnil | with_reducible exact in_any | exact hin _ | with_reducible refine take_in ?_ | with_reducible exact strsE_in _ | with_reducible exact nodesE_in _ | with_reducible exact nodeL_in _ | with_reducible exact itemsE_in _ | with_reducible exact itemL_in _ | with_reducible refine app_in ?_ ?_ | with_reducible refine sing_in ?_ | (focus (simp [in_any, in_int, in_bool, in_str, in_ptr, in_own, in_agg, in_vnil, in_rdr, usedOf_cons, usedOf_nil, strs_in, ints_in, nodes_in, namesR, zeroN, hset]; done)))); done))
        · have hl : ls.length = n.kids.length := by omega
          have hpa : partF ls n.kids.length = ls.map labL := by unfold partF; rw [hl, Nat.sub_self]; simp
          rw [hpa, hl]
          (repeat (first | with_reducible refine AW.seq ?_ | ((first | refine arun_kn 4 rfl (fun C hC => ?_) | refine arunD_kn 4 rfl (fun C hC => ?_)); (repeat ((conv => whnf); simp)); refine hC _ ?_; clear hC C; simp only [List.drop, Nat.reduceAdd]) | ((first | refine arun_kn 1 rfl (fun C hC => ?_) | refine arunD_kn 1 rfl (fun C hC => ?_)); (repeat ((conv => whnf); simp)); refine hC _ ?_; clear hC C; simp only [List.drop, Nat.reduceAdd]) | (refine arun_skip ?_ ?_; (focus (simp [awant]; done))) | (refine AW.regionK [] (fun K hK => ?_)) | (refine AW.regionDK [] (pcs [] []) (by kernel_rfl) (by kernel_rfl) (fun K hK => ?_)) | (refine AW.condT ?_ ?_; (focus (simp [aev]; done))) | (refine AW.condF ?_ ?_; (focus (simp [aev]; done))) | with_reducible refine AW.block ?_ | ((first | ((first | refine arun_nil ?_ | refine arunD_nil ?_); refine hK _ ?_; clear hK K) | refine AW.skip ?_ | refine AW.exit ?_ | refine AW.ret ?_); simp only [thenA_exit, inBlockA_exit, if_true, if_false, Nat.reduceEqDiff, thenA_normal, inBlockA_normal, reduceIte, thenA_ret, inBlockA_ret, endQ_ret, endR_ret, endG_ret, endQ_normal, endR_normal, endG_normal, endF_ret, endF_normal])))
          refine ⟨ls, ⟨by rw [hnd, hl, List.take_of_length_le (Nat.le_refl _)], hnp, hge⟩, ?_⟩
          have hin : ∀ U : Nat → Bool, ∀ e ∈ ls.map labL, ∀ c ∈ e, AV.In U c := fun U => labsE_in _
          exact (less_of (by simp [lessL, mkSt, slots, namesR, labsR, zeroN]) (by simp [upd, mkSt, rowsOf_cons, namesR, labsR, zeroN]) (by simp [upd, mkSt, usedOf_cons, namesR, labsR, zeroN]) (by first | exact rd_less (by omega) | simp [mkSt, namesR, labsR, zeroN]) (by simp [slots, in_any, in_int, in_bool, in_str, in_ptr, in_own, in_agg, in_vnil, in_rdr, usedOf_cons, usedOf_nil, strs_in, ints_in, nodes_in, in_tup, namesR, labsR, zeroN]) (by simp only [List.forall_mem_cons, List.not_mem_nil, false_implies, implies_true, and_true, true_and, namesR, labsR, zeroN]; (repeat (first | with_reducible exact trivial | with_reducible refine And.intro ?_ ?_ | with_reducible exact in_int | with_reducible exact in_str | with_reducible exact in_bool | with_reducible exact strs_in _ | with_reducible exact nodes_in _ | with_reducible exact items_in _ | with_reducible exact in_vnil | with_reducible exact in_any | exact hin _ | with_reducible refine take_in ?_ | with_reducible exact strsE_in _ | with_reducible exact nodesE_in _ | with_reducible exact nodeL_in _ | with_reducible exact itemsE_in _ | with_reducible exact itemL_in _ | with_reducible refine app_in ?_ ?_ | with_reducible refine sing_in ?_ | (focus (simp [in_any, in_int, in_bool, in_str, in_ptr, in_own, in_agg, in_vnil, in_rdr, usedOf_cons, usedOf_nil, strs_in, ints_in, nodes_in, namesR, labsR, zeroN]; done)))); done))
    · have hl0 : n.kids.length = 0 := by omega
      have he0 : n.kids = [] := List.length_eq_zero_iff.1 hl0
      refine AW.adoptB 3 4 34 30 5 ⟨_, tab30, rfl⟩ (by simp [mkSt, rowsOf_cons]; rfl) rfl rfl (by simp [mkSt, usedOf_cons, usedOf_nil]) ?_
      simp only [ASt.adoptB]
      (repeat (first | with_reducible refine AW.seq ?_ | ((first | refine arun_kn 4 rfl (fun C hC => ?_) | refine arunD_kn 4 rfl (fun C hC => ?_)); (repeat ((conv => whnf); simp [hl0])); refine hC _ ?_; clear hC C; simp only [List.drop, Nat.reduceAdd]) | ((first | refine arun_kn 1 rfl (fun C hC => ?_) | refine arunD_kn 1 rfl (fun C hC => ?_)); (repeat ((conv => whnf); simp [hl0])); refine hC _ ?_; clear hC C; simp only [List.drop, Nat.reduceAdd]) | (refine arun_skip ?_ ?_; (focus (simp [awant, hl0]; done))) | (refine AW.regionK [] (fun K hK => ?_)) | (refine AW.regionDK [] (pcs [] []) (by kernel_rfl) (by kernel_rfl) (fun K hK => ?_)) | (refine AW.condT ?_ ?_; (focus (simp [aev, hl0]; done))) | (refine AW.condF ?_ ?_; (focus (simp [aev, hl0]; done))) | with_reducible refine AW.block ?_ | ((first | ((first | refine arun_nil ?_ | refine arunD_nil ?_); refine hK _ ?_; clear hK K) | refine AW.skip ?_ | refine AW.exit ?_ | refine AW.ret ?_); simp only [thenA_exit, inBlockA_exit, if_true, if_false, Nat.reduceEqDiff, thenA_normal, inBlockA_normal, reduceIte, thenA_ret, inBlockA_ret, endQ_ret, endR_ret, endG_ret, endQ_normal, endR_normal, endG_normal, endF_ret, endF_normal])))
      refine ⟨[], ⟨by rw [he0]; rfl, List.nodup_nil, fun b hb => by cases hb⟩, ?_⟩
      exact (less_of (by simp [lessL, mkSt, slots, namesR, labsR, zeroN, he0]) (by simp [upd, mkSt, rowsOf_cons, namesR, labsR, zeroN, he0]) (by simp [upd, mkSt, usedOf_cons, namesR, labsR, zeroN, he0]) (by first | exact rd_less (by omega) | simp [mkSt, namesR, labsR, zeroN, he0]) (by simp [slots, in_any, in_int, in_bool, in_str, in_ptr, in_own, in_agg, in_vnil, in_rdr, usedOf_cons, usedOf_nil, strs_in, ints_in, nodes_in, in_tup, namesR, labsR, zeroN, he0]) (by simp only [List.forall_mem_cons, List.not_mem_nil, false_implies, implies_true, and_true, true_and, namesR, labsR, zeroN, he0]; (repeat (first | with_reducible exact trivial | with_reducible refine And.intro ?_ ?_ | with_reducible exact in_int | with_reducible exact in_str | with_reducible exact in_bool | with_reducible exact strs_in _ | with_reducible exact nodes_in _ | with_reducible exact items_in _ | with_reducible exact in_vnil | with_reducible exact in_any | exact hin _ | with_reducible refine take_in ?_ | with_reducible exact strsE_in _ | with_reducible exact nodesE_in _ | with_reducible exact nodeL_in _ | with_reducible exact itemsE_in _ | with_reducible exact itemL_in _ | with_reducible refine app_in ?_ ?_ | with_reducible refine sing_in ?_ | (focus (simp [in_any, in_int, in_bool, in_str, in_ptr, in_own, in_agg, in_vnil, in_rdr, usedOf_cons, usedOf_nil, strs_in, ints_in, nodes_in, namesR, labsR, zeroN, he0]; done)))); done))
  rintro ks s' ⟨hk1, hk2, hk3⟩ hls
  refine AW.less _ hls ?_
  clear hls s'
  have hlk : ks.length = n.kids.length := by rw [← hk1, List.length_map]
  refine AW.holdF 20 hN (fun g1 hg1 ht1 hr1 => ?_)
  have f1 := hr1 34 (labsR ks) (by simp [mkSt, rowsOf_cons])
  refine AW.holdF 34 hN (fun g2 hg2 ht2 hr2 => ?_)
  have f2 := hr2 34 (labsR ks) (by simp [mkSt, ASt.holdF, rowsOf_cons, upd, namesR, labsR, Row.sub, labsE_sub]; exact fun a _ => labL_sub a)
  have f3 := hr2 3 ⟨true, 30, 5, [[.int .i64 n.kind, .int .i64 n.num, .str n.text, .view (.fr g1) 1 (strsE n.names), .own 34 n.kids.length]]⟩ (by simp [mkSt, ASt.holdF, rowsOf_cons, upd, namesR, AV.subL, AV.sub, Row.sub, strsE_len])
  clear ht1 hr1 ht2 hr2
  (repeat (first | with_reducible refine AW.seq ?_ | ((first | refine arun_kn 4 rfl (fun C hC => ?_) | refine arunD_kn 4 rfl (fun C hC => ?_)); (repeat ((conv => whnf); simp [zeroN, ASt.holdF, namesR, labsR, AV.subL, AV.sub, Row.sub, rowsOf_cons, upd, labsE_sub, strsE_len, hlk])); refine hC _ ?_; clear hC C; simp only [List.drop, Nat.reduceAdd]) | ((first | refine arun_kn 1 rfl (fun C hC => ?_) | refine arunD_kn 1 rfl (fun C hC => ?_)); (repeat ((conv => whnf); simp [zeroN, ASt.holdF, namesR, labsR, AV.subL, AV.sub, Row.sub, rowsOf_cons, upd, labsE_sub, strsE_len, hlk])); refine hC _ ?_; clear hC C; simp only [List.drop, Nat.reduceAdd]) | (refine arun_skip ?_ ?_; (focus (simp [awant, zeroN, ASt.holdF, namesR, labsR, AV.subL, AV.sub, Row.sub, rowsOf_cons, upd, labsE_sub, strsE_len, hlk]; done))) | (refine AW.regionK [] (fun K hK => ?_)) | (refine AW.regionDK [] (pcs [] []) (by kernel_rfl) (by kernel_rfl) (fun K hK => ?_)) | (refine AW.condT ?_ ?_; (focus (simp [aev, zeroN, ASt.holdF, namesR, labsR, AV.subL, AV.sub, Row.sub, rowsOf_cons, upd, labsE_sub, strsE_len, hlk]; done))) | (refine AW.condF ?_ ?_; (focus (simp [aev, zeroN, ASt.holdF, namesR, labsR, AV.subL, AV.sub, Row.sub, rowsOf_cons, upd, labsE_sub, strsE_len, hlk]; done))) | with_reducible refine AW.block ?_ | ((first | ((first | refine arun_nil ?_ | refine arunD_nil ?_); refine hK _ ?_; clear hK K) | refine AW.skip ?_ | refine AW.exit ?_ | refine AW.ret ?_); simp only [thenA_exit, inBlockA_exit, if_true, if_false, Nat.reduceEqDiff, thenA_normal, inBlockA_normal, reduceIte, thenA_ret, inBlockA_ret, endQ_ret, endR_ret, endG_ret, endQ_normal, endR_normal, endG_normal, endF_ret, endF_normal])))
  have e2 : atE (labsR ks).es = ks.flatMap Lb.fp := atE_labs ks
  rw [e2] at f1 f2
  refine ⟨labA ⟨n.kind, n.num, n.text, n.names, g1, ks, g2⟩, by unfold labA; rw [labL_eq]; simp [ares, aresL, upd, rowsOf_cons, labL_sub], lab_pur _, fun b hb => ?_, rLab_X ⟨_, ?_, fp_nodup hk2 f1 f2 (fun h1 _ => f3 g1 ?_), rfl⟩⟩
  · rw [at_lab] at hb
    exact fp_ge (l := ⟨n.kind, n.num, n.text, n.names, g1, ks, g2⟩) hk3 hg1 hg2 b hb
  · rw [nd_eq]; dsimp only; rw [hk1]; cases n; rfl
  · dsimp only at h1
    have : (strsE n.names).isEmpty = false := by unfold strsE; cases hh : n.names with | nil => exact absurd hh h1 | cons _ _ => rfl
    simp [atE_cons, atE_nil, atL_cons, atL_nil, at_int, at_str, at_own, at_view, frB_fr, this]
theorem implCopyF_ACF : ∀ n, Sml n → ACF Try.prog 75 [nodeA n] 0 (rLabX n) :=
  sml_ind fun n hs ih => implCopyF_hold n hs ih
end Go.Proofs.Ytgfnmhfdmmnaoaa.Eng
-- EV: fresh
namespace Go.Proofs.Ytgfnmhfdmmnaoaa.Eng
open Go Go.RowKit
attribute [local simp] big size_mk ASt.pay Option.map_map Function.comp_def awant aop acall ado aev ofVal ofVal0 ASt.put ASt.add ASt.turn ASt.kill abox aalloc astore aload aloadD astoreD idOf ASt.at cellsTo afieldAddr afield aindexAddr aindex alen abin aint acmp astr aun apick aextract anil aslice abound abuild afill abuildSlice asCells aps avCells over upd aappend asrc amax amin aconv mkSt slots rowsOf_cons rowsOf_nil usedOf_cons usedOf_nil ZK.av List.replicate ASt.back ASt.addL ASt.killL nodeA nodeT nodeTL_eq nodeL_eq strsE_get strsE_len intsE_get intsE_len strsE_at intsE_at tab2 tab3 tab4 tab5 tab6 tab7 tab8 tab9 tab10 tab11 tab12 tab13 tab14 tab15 tab16 tab17 tab18 tab19 tab21 tab22 tab23 tab24 tab25 tab26 tab27 tab28 tab29 tab30 tab39 tab40 tab41 tab42 tab43 tab47 tab48 tab55 tab56 tab57 tab60 tab61 tab62 tab73 tab74 tab75 tab85 tab92 tab115 tab116 tab143 tab144 tab145 tab154 tab155 tab170 tab175 tab182 tab197 tab198 tab203 tab204 tab205 tab207 tab208 tab209
def boxLb (n : Lb) (a b : Nat) : Row := ⟨true, 30, 5, [[.int .i64 n.kind, .int .i64 n.num, .str n.text, .own a n.names.length, .own b n.kids.length]]⟩
def putLb (n : Lb) (nm : ByteArray) (v : Lb) : Lb :=
  if mem n.names nm then ⟨n.kind, n.num, n.text, n.names, n.nb, n.kids.set (lbound n.names nm) v, n.kb⟩
  else ⟨n.kind, n.num, n.text, n.names.take (lbound n.names nm) ++ (nm :: n.names.drop (lbound n.names nm)), n.nb, n.kids.take (lbound n.names nm) ++ (v :: n.kids.drop (lbound n.names nm)), n.kb⟩
def PostLb (m : Lb) (a0 b0 a1 b1 : Nat) (r : AV) (l : List (Nat × Row)) : Prop := ∃ a b, ((a = a0 ∧ b = b0) ∨ (a = a1 ∧ b = b1)) ∧ r = .tup [] ∧ l = [(1000, boxLb m a b), (a, namesR m.names), (b, labsR m.kids)]
def rowsLb (n : Lb) : List (Nat × Row) := [(1000, boxLb n 1001 1002), (1001, namesR n.names), (1002, labsR n.kids)]
theorem purLb {n : Lb} {a b : Nat} : ∀ p ∈ [(1000, boxLb n a b), (a, namesR n.names), (b, labsR n.kids)], ∀ e ∈ p.2.es, ∀ c ∈ e, PurR c := by
  simp only [List.forall_mem_cons, List.not_mem_nil, false_implies, implies_true, and_true, boxLb]
  exact ⟨⟨pur_int.purR, pur_int.purR, pur_str.purR, purR_own, purR_own⟩, fun e he c hc => (strsE_pur _ e he c hc).purR, fun e he c hc => (labsE_pur _ e he c hc).purR⟩
theorem inLb {n : Lb} {a b : Nat} : ∀ p ∈ [(1000, boxLb n a b), (a, namesR n.names), (b, labsR n.kids)], ∀ e ∈ p.2.es, ∀ c ∈ e, AV.In (fun id => (rowsOf [(1000, boxLb n a b), (a, namesR n.names), (b, labsR n.kids)] id).isSome) c := by
  simp only [List.forall_mem_cons, List.not_mem_nil, false_implies, implies_true, and_true, boxLb]
  refine ⟨⟨in_int, in_int, in_str, in_own.2 ?_, in_own.2 ?_⟩, fun e he c hc => strsE_in _ e he c hc, fun e he c hc => labsE_in _ e he c hc⟩
  · simp only [rowsOf_cons]; split <;> simp
  · simp only [rowsOf_cons]; split <;> (try split) <;> simp
theorem putLb_yes {n v : Lb} {nm : ByteArray} (h : mem n.names nm = true) : putLb n nm v = ⟨n.kind, n.num, n.text, n.names, n.nb, n.kids.set (lbound n.names nm) v, n.kb⟩ := by unfold putLb; rw [if_pos h]
theorem putLb_no {n v : Lb} {nm : ByteArray} (h : mem n.names nm = false) : putLb n nm v = ⟨n.kind, n.num, n.text, n.names.take (lbound n.names nm) ++ (nm :: n.names.drop (lbound n.names nm)), n.nb, n.kids.take (lbound n.names nm) ++ (v :: n.kids.drop (lbound n.names nm)), n.kb⟩ := by unfold putLb; rw [h]; rfl
theorem putNameF_ACG (n v : Lb) (nm : ByteArray) (hasc : Asc n.names) (hl : n.names.length = n.kids.length) (hb : n.kids.length ≤ 1000) : ACG Try.prog 160 [.ptr true 5 1 1000 0 0, .str nm, labA v] (rowsLb n) 0 (PostLb (putLb n nm v) 1001 1002 33 44) := by
  unfold rowsLb boxLb namesR labsR labA
  rw [labL_eq v]
  have hml : (n.kids.map labL).length = n.kids.length := List.length_map _
  have hsl := strsE_len n.names
  have hle := lbn_le n.names nm
  have pb := bsearch_AC n.names nm .lent hasc (by omega)
  refine ACG.of tab_ok mixed_ok Try.func160 (by rfl) (by kernel_rfl) (by simp) ?_; rintro ⟨P, T, hT, hm, w0, S0, rd0, k0⟩ hP hTT; dsimp only at hP hTT; subst hP hTT; unfold initStG; rw [Try.ntmps160]
  cases hm : mem n.names nm with
  | true =>
    have hlt := lbn_lt hasc hm
    rw [hm] at pb
    have hlk : lbound n.names nm < n.kids.length := by omega
    have hdr : ∀ x : Lb, (labL x).drop 5 = [] := fun x => List.drop_of_length_le (by rw [labL_len]; exact Nat.le_refl _)
    (repeat (first | with_reducible refine AW.seq ?_ | ((first | refine arun_kn 4 rfl (fun C hC => ?_) | refine arunD_kn 4 rfl (fun C hC => ?_)); (repeat ((conv => whnf); simp [hml, hsl, hlt, hlk, hdr])); refine hC _ ?_; clear hC C; simp only [List.drop, Nat.reduceAdd]) | ((first | refine arun_kn 1 rfl (fun C hC => ?_) | refine arunD_kn 1 rfl (fun C hC => ?_)); (repeat ((conv => whnf); simp [hml, hsl, hlt, hlk, hdr])); refine hC _ ?_; clear hC C; simp only [List.drop, Nat.reduceAdd]) | (refine arun_skip ?_ ?_; (focus (simp [awant, hml, hsl, hlt, hlk, hdr]; done))) | (refine arun_cL (0) (pb) ?_; rintro _ rfl) | (refine AW.regionK [] (fun K hK => ?_)) | (refine AW.regionDK [] (pcs [] []) (by kernel_rfl) (by kernel_rfl) (fun K hK => ?_)) | (refine AW.condT ?_ ?_; (focus (simp [aev, hml, hsl, hlt, hlk, hdr]; done))) | (refine AW.condF ?_ ?_; (focus (simp [aev, hml, hsl, hlt, hlk, hdr]; done))) | with_reducible refine AW.block ?_ | ((first | ((first | refine arun_nil ?_ | refine arunD_nil ?_); refine hK _ ?_; clear hK K) | refine AW.skip ?_ | refine AW.exit ?_ | refine AW.ret ?_); simp only [thenA_exit, inBlockA_exit, if_true, if_false, Nat.reduceEqDiff, thenA_normal, inBlockA_normal, reduceIte, thenA_ret, inBlockA_ret, endQ_ret, endR_ret, endG_ret, endQ_normal, endR_normal, endG_normal, endF_ret, endF_normal])))
    refine ⟨.tup [], [(1000, boxLb (putLb n nm v) 1001 1002), (1001, namesR (putLb n nm v).names), (1002, labsR (putLb n nm v).kids)], by simp [ares, aresL], ?_, purR_tup (fun _ h => by cases h), purLb, ⟨in_tup.2 (fun _ h => by cases h), inLb⟩, 1001, 1002, .inl ⟨rfl, rfl⟩, rfl, rfl⟩
    have q1 : (putLb n nm v).kind = n.kind := by rw [putLb_yes hm]
    have q2 : (putLb n nm v).num = n.num := by rw [putLb_yes hm]
    have q3 : (putLb n nm v).text = n.text := by rw [putLb_yes hm]
    have q4 : (putLb n nm v).names = n.names := by rw [putLb_yes hm]
    have q5 : (putLb n nm v).kids.map labL = (n.kids.map labL).set (lbound n.names nm) (labL v) := by rw [putLb_yes hm, List.map_set]
    have q6 : (putLb n nm v).kids.length = n.kids.length := by rw [putLb_yes hm, List.length_set]
    rw [labL_eq v] at q5
    unfold boxLb namesR labsR
    rw [q1, q2, q3, q4, q5, q6]
    simp only [List.forall_mem_cons, List.not_mem_nil, false_implies, implies_true, and_true]
    exact ⟨rfl, rfl, rfl⟩
  | false =>
    rw [hm] at pb
    (repeat (first | with_reducible refine AW.seq ?_ | ((first | refine arun_knb 4 rfl (fun C hC => ?_) | refine arunD_kn 4 rfl (fun C hC => ?_)); (repeat ((conv => whnf); simp [hml, hsl])); refine hC _ ?_; clear hC C; simp only [List.drop, Nat.reduceAdd]) | ((first | refine arun_knb 1 rfl (fun C hC => ?_) | refine arunD_kn 1 rfl (fun C hC => ?_)); (repeat ((conv => whnf); simp [hml, hsl])); refine hC _ ?_; clear hC C; simp only [List.drop, Nat.reduceAdd]) | (refine arun_skip ?_ ?_; (focus (simp [awant, hml, hsl]; done))) | (refine arun_cL (0) (pb) ?_; rintro _ rfl) | (refine AW.regionK [] (fun K hK => ?_)) | (refine AW.regionDK [] (pcs [] []) (by kernel_rfl) (by kernel_rfl) (fun K hK => ?_)) | (refine AW.condT ?_ ?_; (focus (simp [aev, hml, hsl]; done))) | (refine AW.condF ?_ ?_; (focus (simp [aev, hml, hsl]; done))) | with_reducible refine AW.block ?_ | ((first | ((first | refine arun_nil ?_ | refine arunD_nil ?_); refine hK _ ?_; clear hK K) | refine AW.skip ?_ | refine AW.exit ?_ | refine AW.ret ?_); simp only [thenA_exit, inBlockA_exit, if_true, if_false, Nat.reduceEqDiff, thenA_normal, inBlockA_normal, reduceIte, thenA_ret, inBlockA_ret, endQ_ret, endR_ret, endG_ret, endQ_normal, endR_normal, endG_normal, endF_ret, endF_normal])))
    refine arun_ownSlice 32 rfl (by simp [awant]) tab23 (by simp; exact ⟨rfl, rfl⟩) (by simp [upd]) ?_
    have hins := insS_ACG (strsE n.names) [.str nm] (lbound n.names nm) (by rw [hsl]; exact hle) (by rw [hsl]; omega) (strsE_pur n.names) (by simp only [List.forall_mem_cons, List.not_mem_nil, false_implies, implies_true, and_true]; exact pur_str)
    rw [hsl] at hins
    have hes : (strsE n.names).take (lbound n.names nm) ++ ([.str nm] :: (strsE n.names).drop (lbound n.names nm)) = strsE (putLb n nm v).names := by
      rw [putLb_no hm]; simp [strsE, List.map_take, List.map_drop]
    rw [hes] at hins
    refine arun_callG1 (g := fun k => .own k (n.names.length + 1)) (R := namesR (putLb n nm v).names) [(1000, ⟨false, 9, 1, strsE n.names⟩), (1001, ⟨false, 9, 1, [[.str nm]]⟩)] (fun k => if k = 1000 then 1001 else 32) 33 (by simp [awant]) rfl (hins.mono (fun r b h => ⟨1, h⟩)) (by simp) ?_ ?_ (can_of (Nat.le_refl _)) (by simp [upd]) (strsE_pur _) (fun k => .base (.base (.own (by simp) rfl))) ?_
    · refine MvR.same (by simp [upd, rowsOf_cons]) (fun e he c hc => (strsE_pur _ e he c hc).clo) (MvR.same (by simp [upd]) (fun e he c hc => ?_) MvR.nil)
      rw [List.mem_singleton.1 he, List.mem_singleton] at hc
      subst hc
      exact clo_str
    · exact .cons (.base (.own (by simp) (by simp))) (.cons (.base (.clo (Clo.cloTo clo_int))) (.cons (.base (.own (by simp) (by simp))) .nil))
    (repeat (first | with_reducible refine AW.seq ?_ | ((first | refine arun_kn 4 rfl (fun C hC => ?_) | refine arunD_kn 4 rfl (fun C hC => ?_)); (repeat ((conv => whnf); simp [hml, hsl])); refine hC _ ?_; clear hC C; simp only [List.drop, Nat.reduceAdd]) | ((first | refine arun_kn 1 rfl (fun C hC => ?_) | refine arunD_kn 1 rfl (fun C hC => ?_)); (repeat ((conv => whnf); simp [hml, hsl])); refine hC _ ?_; clear hC C; simp only [List.drop, Nat.reduceAdd]) | (refine arun_skip ?_ ?_; (focus (simp [awant, hml, hsl]; done))) | (refine AW.regionK [] (fun K hK => ?_)) | (refine AW.condT ?_ ?_; (focus (simp [aev, hml, hsl]; done))) | (refine AW.condF ?_ ?_; (focus (simp [aev, hml, hsl]; done))) | with_reducible refine AW.block ?_ | ((first | ((first | refine arun_nil ?_ | refine arunD_nil ?_); refine hK _ ?_; clear hK K) | refine AW.skip ?_ | refine AW.exit ?_ | refine AW.ret ?_); simp only [thenA_exit, inBlockA_exit, if_true, if_false, Nat.reduceEqDiff, thenA_normal, inBlockA_normal, reduceIte, thenA_ret, inBlockA_ret, endQ_ret, endR_ret, endG_ret, endQ_normal, endR_normal, endG_normal, endF_ret, endF_normal])))
    refine AW.regionDK [2043] (pcs [] [1008]) (by kernel_rfl) (by kernel_rfl) (fun K hK => ?_)
    (repeat (first | with_reducible refine AW.seq ?_ | ((first | refine arun_kn 4 rfl (fun C hC => ?_) | refine arunD_kn 4 rfl (fun C hC => ?_)); (repeat ((conv => whnf); simp [hml, hsl])); refine hC _ ?_; clear hC C; simp only [List.drop, Nat.reduceAdd]) | ((first | refine arun_kn 1 rfl (fun C hC => ?_) | refine arunD_kn 1 rfl (fun C hC => ?_)); (repeat ((conv => whnf); simp [hml, hsl])); refine hC _ ?_; clear hC C; simp only [List.drop, Nat.reduceAdd]) | (refine arun_skip ?_ ?_; (focus (simp [awant, hml, hsl]; done))) | (refine AW.regionK [] (fun K hK => ?_)) | (refine AW.regionDK [] (pcs [] []) (by kernel_rfl) (by kernel_rfl) (fun K hK => ?_)) | (refine AW.condT ?_ ?_; (focus (simp [aev, hml, hsl]; done))) | (refine AW.condF ?_ ?_; (focus (simp [aev, hml, hsl]; done))) | with_reducible refine AW.block ?_ | ((first | ((first | refine arun_nil ?_ | refine arunD_nil ?_); refine hK _ ?_; clear hK K) | refine AW.skip ?_ | refine AW.exit ?_ | refine AW.ret ?_); simp only [thenA_exit, inBlockA_exit, if_true, if_false, Nat.reduceEqDiff, thenA_normal, inBlockA_normal, reduceIte, thenA_ret, inBlockA_ret, endQ_ret, endR_ret, endG_ret, endQ_normal, endR_normal, endG_normal, endF_ret, endF_normal])))
    have hinn := insN_ACG (n.kids.map labL) (labL v) (lbound n.names nm) (by rw [hml]; omega) (by rw [hml]; omega) (labsE_pur n.kids) (labL_pur v)
    rw [hml] at hinn
    have hks : (n.kids.map labL).take (lbound n.names nm) ++ (labL v :: (n.kids.map labL).drop (lbound n.names nm)) = (putLb n nm v).kids.map labL := by
      rw [putLb_no hm]; simp [List.map_take, List.map_drop]
    rw [hks, labL_eq v] at hinn
    have hpv := labL_pur v
    rw [labL_eq v] at hpv
    refine arunD_callG1 (g := fun k => .own k (n.kids.length + 1)) (R := labsR (putLb n nm v).kids) [(1000, ⟨false, 30, 5, n.kids.map labL⟩), (1001, ⟨false, 30, 5, [[.int .i64 v.kind, .int .i64 v.num, .str v.text, .view (.fr v.nb) 1 (strsE v.names), .view (.fr v.kb) 5 (v.kids.map labL)]]⟩)] (fun k => if k = 1000 then 1002 else 43) 44 rfl (by simp [awant]) rfl (hinn.mono (fun r b h => ⟨1, h⟩)) (by simp) ?_ ?_ (can_of (Nat.le_refl _)) (by simp [upd]) (labsE_pur _) (fun e he c hc => labsE_in _ e he c hc) (fun k => .base (.base (.own (by simp) rfl))) (in_own.2 (by simp)) ?_
    · refine MvR.same (by simp [upd, rowsOf_cons]) (fun e he c hc => (labsE_pur _ e he c hc).clo) (MvR.same (by simp [upd]) (fun e he c hc => ?_) MvR.nil)
      rw [List.mem_singleton.1 he] at hc
      exact (hpv c hc).clo
    · exact .cons (.base (.own (by simp) (by simp))) (.cons (.base (.clo (Clo.cloTo clo_int))) (.cons (.base (.own (by simp) (by simp))) .nil))
    (repeat (first | with_reducible refine AW.seq ?_ | ((first | refine arun_kn 4 rfl (fun C hC => ?_) | refine arunD_kn 4 rfl (fun C hC => ?_)); (repeat ((conv => whnf); simp [hml, hsl])); refine hC _ ?_; clear hC C; simp only [List.drop, Nat.reduceAdd]) | ((first | refine arun_kn 1 rfl (fun C hC => ?_) | refine arunD_kn 1 rfl (fun C hC => ?_)); (repeat ((conv => whnf); simp [hml, hsl])); refine hC _ ?_; clear hC C; simp only [List.drop, Nat.reduceAdd]) | (refine arun_skip ?_ ?_; (focus (simp [awant, hml, hsl]; done))) | (refine AW.regionK [] (fun K hK => ?_)) | (refine AW.regionDK [] (pcs [] []) (by kernel_rfl) (by kernel_rfl) (fun K hK => ?_)) | (refine AW.condT ?_ ?_; (focus (simp [aev, hml, hsl]; done))) | (refine AW.condF ?_ ?_; (focus (simp [aev, hml, hsl]; done))) | with_reducible refine AW.block ?_ | ((first | ((first | refine arun_nil ?_ | refine arunD_nil ?_); refine hK _ ?_; clear hK K) | refine AW.skip ?_ | refine AW.exit ?_ | refine AW.ret ?_); simp only [thenA_exit, inBlockA_exit, if_true, if_false, Nat.reduceEqDiff, thenA_normal, inBlockA_normal, reduceIte, thenA_ret, inBlockA_ret, endQ_ret, endR_ret, endG_ret, endQ_normal, endR_normal, endG_normal, endF_ret, endF_normal])))
    refine ⟨.tup [], [(1000, boxLb (putLb n nm v) 33 44), (33, namesR (putLb n nm v).names), (44, labsR (putLb n nm v).kids)], by simp [ares, aresL], ?_, purR_tup (fun _ h => by cases h), purLb, ⟨in_tup.2 (fun _ h => by cases h), inLb⟩, 33, 44, .inr ⟨rfl, rfl⟩, rfl, rfl⟩
    have q1 : (putLb n nm v).kind = n.kind := by rw [putLb_no hm]
    have q2 : (putLb n nm v).num = n.num := by rw [putLb_no hm]
    have q3 : (putLb n nm v).text = n.text := by rw [putLb_no hm]
    have q4 : (putLb n nm v).names.length = n.names.length + 1 := by rw [putLb_no hm]; simp; omega
    have q6 : (putLb n nm v).kids.length = n.kids.length + 1 := by rw [putLb_no hm]; simp; omega
    unfold boxLb
    rw [q1, q2, q3, q4, q6]
    simp only [List.forall_mem_cons, List.not_mem_nil, false_implies, implies_true, and_true]
    exact ⟨rfl, rfl, rfl⟩
end Go.Proofs.Ytgfnmhfdmmnaoaa.Eng
-- EV: fresh
namespace Go.Proofs.Ytgfnmhfdmmnaoaa.Eng
open Go Go.RowKit
def nuLb (idx A0 B0 : Nat) (k : Nat) : Nat := if k = 1000 then idx else if k = 1001 then A0 else B0
def backLb (m : Lb) (idx A B : Nat) : List (Nat × Row) := [(idx, boxLb m A B), (A, namesR m.names), (B, labsR m.kids)]
def muLb (idx a A B : Nat) (k : Nat) : Nat := if k = 1000 then idx else if k = a then A else B
theorem back_Lb {s : ASt} {n m : Lb} {idx A0 B0 A B a b : Nat} (hab : a ≠ b) (ha : a ≠ 1000) (hb : b ≠ 1000) (hAB : A ≠ B) (hA : A ≠ idx) (hB : B ≠ idx) (uA : s.used A = false) (uB : s.used B = false) :
    Back s (rowsLb n) (nuLb idx A0 B0) (muLb idx a A B) [(1000, boxLb m a b), (a, namesR m.names), (b, labsR m.kids)] (backLb m idx A B) (.tup []) (.tup []) := by
  have m0 : muLb idx a A B 1000 = idx := by unfold muLb; rw [if_pos rfl]
  have m1 : muLb idx a A B a = A := by unfold muLb; rw [if_neg ha, if_pos rfl]
  have m2 : muLb idx a A B b = B := by unfold muLb; rw [if_neg hb, if_neg (fun h => hab h.symm)]
  refine ⟨?_, ?_, ?_, .base (.base (.pur ?_))⟩
  · intro k hk k' hk'
    simp only [List.map_cons, List.map_nil, List.mem_cons, List.not_mem_nil, or_false] at hk hk'
    rcases hk with rfl | rfl | rfl <;> rcases hk' with rfl | rfl | rfl <;> simp only [m0, m1, m2] <;> intro h <;> first | rfl | omega
  · intro k R hk
    have hmem := rowsOf_key hk
    simp only [List.map_cons, List.map_nil, List.mem_cons, List.not_mem_nil, or_false] at hmem
    rcases hmem with rfl | rfl | rfl
    · left
      rw [rowsOf_cons, if_pos rfl] at hk
      cases hk
      exact ⟨by rw [m0]; unfold nuLb; rw [if_pos rfl], rfl, _, by unfold rowsLb; rw [rowsOf_cons, if_pos rfl], rfl⟩
    · right; rw [m1]; exact uA
    · right; rw [m2]; exact uB
  · refine .cons (es := [[.int .i64 m.kind, .int .i64 m.num, .str m.text, .own A m.names.length, .own B m.kids.length]]) m0.symm (.box (.cons (.pur pur_int) (.cons (.pur pur_int) (.cons (.pur pur_str) (.cons (.own (by simp) m1.symm) (.cons (.own (by simp) m2.symm) .nil)))))) (.cons (es := (namesR m.names).es) m1.symm (.refl (strsE_pur _)) (.cons (es := (labsR m.kids).es) m2.symm (.refl (labsE_pur _)) .nil))
  · exact fun w ρ v hr => by
      obtain ⟨vs, rfl, h2⟩ := rep_tup.1 hr
      exact rep_tup.2 ⟨vs, rfl, by unfold RepL at h2 ⊢; exact h2⟩
section
variable {P : Program} {T : Tab} {k0 : Nat} {md : List Nat} {Av : Nat → Prop} {pc : Pc} {ops : Array Oper} {K : ASt → Prop} {o : Oper} {l : List Oper} {s : ASt} {f : FuncId} {xs : List Operand} {args : List AV}
theorem nuLb_inj {n : Lb} {idx A0 B0 : Nat} (h1 : A0 ≠ B0) (h2 : A0 ≠ idx) (h3 : B0 ≠ idx) : ∀ k ∈ (rowsLb n).map (·.1), ∀ k' ∈ (rowsLb n).map (·.1), nuLb idx A0 B0 k = nuLb idx A0 B0 k' → k = k' := by
  intro k hk k' hk'
  simp only [rowsLb, List.map_cons, List.map_nil, List.mem_cons, List.not_mem_nil, or_false] at hk hk'
  rcases hk with rfl | rfl | rfl <;> rcases hk' with rfl | rfl | rfl <;> simp [nuLb] <;> intro h <;> omega
theorem rowsLb_mv {n : Lb} {idx A0 B0 : Nat} (h1 : s.rows idx = some (boxLb n A0 B0)) (h2 : s.rows A0 = some (namesR n.names)) (h3 : s.rows B0 = some (labsR n.kids)) : MvR s.rows ((rowsLb n).map (·.1)) (nuLb idx A0 B0) (rowsLb n) := by
  refine MvR.cons (R := boxLb n A0 B0) (by unfold nuLb; rw [if_pos rfl]; exact h1) rfl rfl rfl (.box (.cons (.clo (Clo.cloTo clo_int)) (.cons (.clo (Clo.cloTo clo_int)) (.cons (.clo (Clo.cloTo clo_str)) (.cons (.own (by simp [rowsLb]) (by simp [nuLb])) (.cons (.own (by simp [rowsLb]) (by simp [nuLb])) .nil)))))) ?_
  refine MvR.same (by simp [nuLb]; exact h2) (fun e he c hc => (strsE_pur _ e he c hc).clo) (MvR.same (by simp [nuLb]; exact h3) (fun e he c hc => (labsE_pur _ e he c hc).clo) MvR.nil)
theorem arun_callL5 {n m : Lb} (idx A0 B0 A B : Nat) {a0 b0 a1 b1 : Nat} (hd0 : a0 ≠ b0 ∧ a0 ≠ 1000 ∧ b0 ≠ 1000 := by decide) (hd1 : a1 ≠ b1 ∧ a1 ≠ 1000 ∧ b1 ≠ 1000 := by decide) (hac : ACG P f args (rowsLb n) 0 (PostLb m a0 b0 a1 b1))
    (h1 : s.rows idx = some (boxLb n A0 B0)) (h2 : s.rows A0 = some (namesR n.names)) (h3 : s.rows B0 = some (labsR n.kids)) (hd : A0 ≠ B0 ∧ A0 ≠ idx ∧ B0 ≠ idx) (hD : A ≠ B ∧ A ≠ idx ∧ B ≠ idx) (uA : s.used A = false) (uB : s.used B = false)
    (hw : awant ops o s = some true) (ha : acall o.op = some (f, xs)) (hargs : MvL s.rows ((rowsLb n).map (·.1)) (nuLb idx A0 B0) (xs.map (aev s)) args) (hcan : s.can 0)
    (h : ARun P T k0 Av md ops K l ((s.back (rowsLb n) (nuLb idx A0 B0) 0 (backLb m idx A B)).put o.dst (.tup []))) : ARun P T k0 Av md ops K (o :: l) s :=
  arun_callG (rowsLb n) (nuLb idx A0 B0) hw ha rfl ⟨hac, nuLb_inj hd.1 hd.2.1 hd.2.2, rowsLb_mv h1 h2 h3, hargs, hcan⟩ (fun r l' hp => by
    obtain ⟨a, b, hab, rfl, rfl⟩ := hp
    rcases hab with ⟨rfl, rfl⟩ | ⟨rfl, rfl⟩
    · exact ⟨_, _, _, back_Lb hd0.1 hd0.2.1 hd0.2.2 hD.1 hD.2.1 hD.2.2 uA uB, h⟩
    · exact ⟨_, _, _, back_Lb hd1.1 hd1.2.1 hd1.2.2 hD.1 hD.2.1 hD.2.2 uA uB, h⟩)
theorem arunD_callL5 {k : Nat} {n m : Lb} (idx A0 B0 A B : Nat) {a0 b0 a1 b1 : Nat} (hd0 : a0 ≠ b0 ∧ a0 ≠ 1000 ∧ b0 ≠ 1000 := by decide) (hd1 : a1 ≠ b1 ∧ a1 ≠ 1000 ∧ b1 ≠ 1000 := by decide) (hac : ACG P f args (rowsLb n) 0 (PostLb m a0 b0 a1 b1))
    (h1 : s.rows idx = some (boxLb n A0 B0)) (h2 : s.rows A0 = some (namesR n.names)) (h3 : s.rows B0 = some (labsR n.kids)) (hd : A0 ≠ B0 ∧ A0 ≠ idx ∧ B0 ≠ idx) (hD : A ≠ B ∧ A ≠ idx ∧ B ≠ idx) (uA : s.used A = false) (uB : s.used B = false)
    (hl : pc.2.contains (1000 + k) = true) (hw : awant ops o s = some true) (ha : acall o.op = some (f, xs)) (hargs : MvL s.rows ((rowsLb n).map (·.1)) (nuLb idx A0 B0) (xs.map (aev s)) args) (hcan : s.can 0)
    (h : ARunD P T md Av pc ops K l (k + 1) ((s.back (rowsLb n) (nuLb idx A0 B0) 0 (backLb m idx A B)).put o.dst (.tup []))) : ARunD P T md Av pc ops K (o :: l) k s :=
  arunD_spcG (rowsLb n) (nuLb idx A0 B0) hl hw ha rfl ⟨hac, nuLb_inj hd.1 hd.2.1 hd.2.2, rowsLb_mv h1 h2 h3, hargs, hcan⟩ ⟨_, _, a0, b0, .inl ⟨rfl, rfl⟩, rfl, rfl⟩ (fun r l' hp => by
    have hin : BackIn (backLb m idx A B) (.tup []) := by
      refine ⟨in_tup.2 (fun _ h => by cases h), ?_⟩
      unfold backLb
      simp only [List.forall_mem_cons, List.not_mem_nil, false_implies, implies_true, and_true, boxLb]
      refine ⟨⟨in_int, in_int, in_str, in_own.2 ?_, in_own.2 ?_⟩, fun e he c hc => strsE_in _ e he c hc, fun e he c hc => labsE_in _ e he c hc⟩
      · show (rowsOf _ A).isSome = true
        rw [rowsOf_cons, if_neg hD.2.1, rowsOf_cons, if_pos rfl]; rfl
      · show (rowsOf _ B).isSome = true
        rw [rowsOf_cons, if_neg hD.2.2, rowsOf_cons, if_neg (fun h => hD.1 h.symm), rowsOf_cons, if_pos rfl]; rfl
    obtain ⟨a, b, hab, rfl, rfl⟩ := hp
    rcases hab with ⟨rfl, rfl⟩ | ⟨rfl, rfl⟩
    · exact ⟨_, _, _, back_Lb hd0.1 hd0.2.1 hd0.2.2 hD.1 hD.2.1 hD.2.2 uA uB, hin, h⟩
    · exact ⟨_, _, _, back_Lb hd1.1 hd1.2.1 hd1.2.2 hD.1 hD.2.1 hD.2.2 uA uB, hin, h⟩)
end
end Go.Proofs.Ytgfnmhfdmmnaoaa.Eng
namespace Go.Proofs.Ytgfnmhfdmmnaoaa.Eng
open Go Go.RowKit
theorem asc_pw {xs : List ByteArray} : Asc xs ↔ xs.Pairwise (fun a b => lt a b = true) := by
  rw [List.pairwise_iff_getElem]
  exact ⟨fun h i j hi hj hij => h i j hi hj hij, fun h i j hi hj hij => h i j hi hj hij⟩
theorem lt_tot {a b : ByteArray} (h : lt a b = false) (hn : a ≠ b) : lt b a = true := by
  rcases bl_cases a b with ⟨h1, h2, _, _, h3⟩ | ⟨h1, h2, _, _, h3⟩ | h'
  · exact absurd (show lt a b = true from h1) (by rw [h]; simp)
  · exact h2
  · exact absurd h' hn
theorem lb_split : ∀ {xs : List ByteArray} {s : ByteArray}, xs.Pairwise (fun a b => lt a b = true) → (∀ a ∈ xs.take (lbound xs s), lt a s = true) ∧ (∀ b ∈ xs.drop (lbound xs s), lt b s = false)
  | [], s, _ => ⟨fun a h => by simp at h, fun a h => by simp at h⟩
  | x :: t, s, h => by
    rw [List.pairwise_cons] at h
    have hlb : lbound (x :: t) s = lbound t s + if lt x s then 1 else 0 := by unfold lbound; rw [List.countP_cons]
    obtain ⟨i1, i2⟩ := lb_split (s := s) h.2
    cases hx : lt x s
    · have h0 : lbound t s = 0 := by
        unfold lbound
        rw [List.countP_eq_zero]
        intro y hy hys
        have := bl_trans _ _ _ (h.1 y hy) hys
        exact absurd (show lt x s = true from this) (by rw [hx]; simp)
      rw [hlb, hx, h0]
      rw [h0] at i2
      refine ⟨fun a ha => by simp at ha, fun b hb => ?_⟩
      simp at hb
      rcases hb with rfl | hb
      · exact hx
      · exact i2 b (by simpa using hb)
    · rw [hlb, hx]
      simp only [if_true, List.take_succ_cons, List.drop_succ_cons, List.mem_cons, forall_eq_or_imp]
      exact ⟨⟨hx, i1⟩, i2⟩
structure MapW (r : Nd) : Prop where
  kd : r.kind = 4
  nz : r.num = 0
  tz : r.text = ⟨#[]⟩
  asc : Asc r.names
  len : r.names.length = r.kids.length
def zK (r : Nd) : List (ByteArray × Nd) := r.names.zip r.kids
theorem putK_w {r : Nd} (h : MapW r) (nm : ByteArray) (v : Nd) : MapW (putK r nm v) ∧ (nm, v) ∈ zK (putK r nm v) ∧ (∀ x w, x ≠ nm → (x, w) ∈ zK r → (x, w) ∈ zK (putK r nm v)) ∧ (∀ x, mem (putK r nm v).names x = true → x = nm ∨ mem r.names x = true) := by
  cases hm : mem r.names nm
  · rw [putK_no hm]
    have hle := lbn_le r.names nm
    have hl := h.len
    obtain ⟨s1, s2⟩ := lb_split (s := nm) (asc_pw.1 h.asc)
    have hz : zK ⟨r.kind, r.num, r.text, r.names.take (lbound r.names nm) ++ (nm :: r.names.drop (lbound r.names nm)), r.kids.take (lbound r.names nm) ++ (v :: r.kids.drop (lbound r.names nm))⟩ = (zK r).take (lbound r.names nm) ++ ((nm, v) :: (zK r).drop (lbound r.names nm)) := by
      unfold zK
      dsimp only
      rw [List.zip_append (by rw [List.length_take, List.length_take]; omega), List.zip_cons_cons]
      congr 1
      · exact (List.take_zipWith ..).symm
      · congr 1; exact (List.drop_zipWith ..).symm
    refine ⟨⟨h.kd, h.nz, h.tz, ?_, by dsimp only; simp only [List.length_append, List.length_cons, List.length_take, List.length_drop]; omega⟩, ?_, fun x w hx hxw => ?_, fun x hx => ?_⟩
    · rw [asc_pw]
      dsimp only
      have hp := asc_pw.1 h.asc
      rw [← List.take_append_drop (lbound r.names nm) r.names, List.pairwise_append] at hp
      rw [List.pairwise_append, List.pairwise_cons]
      have hb : ∀ b ∈ r.names.drop (lbound r.names nm), lt nm b = true := fun b hb => lt_tot (s2 b hb) (fun e => by
        subst e
        have := mem_iff.2 (List.mem_of_mem_drop hb)
        rw [hm] at this; cases this)
      refine ⟨hp.1, ⟨hb, hp.2.1⟩, fun a ha b hb' => ?_⟩
      rcases List.mem_cons.1 hb' with rfl | hb'
      · exact s1 a ha
      · exact hp.2.2 a ha b hb'
    · rw [hz]; simp
    · rw [hz]
      rw [← List.take_append_drop (lbound r.names nm) (zK r)] at hxw
      rcases List.mem_append.1 hxw with h | h
      · exact List.mem_append.2 (.inl h)
      · exact List.mem_append.2 (.inr (List.mem_cons.2 (.inr h)))
    · rw [mem_iff] at hx
      dsimp only at hx
      rw [List.mem_append, List.mem_cons] at hx
      rcases hx with hx | rfl | hx
      · exact .inr (mem_iff.2 (List.mem_of_mem_take hx))
      · exact .inl rfl
      · exact .inr (mem_iff.2 (List.mem_of_mem_drop hx))
  · rw [putK_yes hm]
    obtain ⟨h1, h2⟩ := Go.Proofs.Ytgfnmhfdmmnaoaa.lb_lt h.asc hm
    have h3 : lbound r.names nm < r.kids.length := by rw [← h.len]; exact h1
    have hW : MapW ⟨r.kind, r.num, r.text, r.names, r.kids.set (lbound r.names nm) v⟩ := ⟨h.kd, h.nz, h.tz, h.asc, by dsimp only; rw [List.length_set]; exact h.len⟩
    refine ⟨hW, ?_, fun x w hx hxw => ?_, fun x hx => .inr hx⟩
    · have : (zK ⟨r.kind, r.num, r.text, r.names, r.kids.set (lbound r.names nm) v⟩)[lbound r.names nm]? = some (nm, v) := by
        unfold zK
        rw [List.getElem?_zip_eq_some]
        exact ⟨by dsimp only; rw [List.getElem?_eq_getElem h1, h2], by dsimp only; rw [List.getElem?_set_self h3]⟩
      exact List.mem_of_getElem? this
    · obtain ⟨i, hi⟩ := List.getElem?_of_mem hxw
      unfold zK at hi
      rw [List.getElem?_zip_eq_some] at hi
      have hne : lbound r.names nm ≠ i := fun e => by
        subst e
        have := hi.1
        dsimp only at this
        rw [List.getElem?_eq_getElem h1, h2] at this
        exact hx (Option.some.inj this).symm
      have : (zK ⟨r.kind, r.num, r.text, r.names, r.kids.set (lbound r.names nm) v⟩)[i]? = some (x, w) := by
        unfold zK
        rw [List.getElem?_zip_eq_some]
        exact ⟨hi.1, by dsimp only; rw [List.getElem?_set_ne hne]; exact hi.2⟩
      exact List.mem_of_getElem? this
theorem putK_kids {r v k : Nd} {nm : ByteArray} (h : k ∈ (putK r nm v).kids) : k = v ∨ k ∈ r.kids := by
  cases hm : mem r.names nm
  · rw [putK_no hm] at h
    rcases List.mem_append.1 h with h | h
    · exact .inr (List.mem_of_mem_take h)
    · rcases List.mem_cons.1 h with h | h
      · exact .inl h
      · exact .inr (List.mem_of_mem_drop h)
  · rw [putK_yes hm] at h
    exact (List.mem_or_eq_of_mem_set h).symm
theorem putK_klen {r v : Nd} {nm : ByteArray} : (putK r nm v).kids.length ≤ r.kids.length + 1 := by
  cases hm : mem r.names nm
  · rw [putK_no hm]; simp; omega
  · rw [putK_yes hm]; simp
def baseM (n : Nd) : Nd := if n.kind = 4 then n else ⟨4, 0, ⟨#[]⟩, [], []⟩
theorem shp_zero : Shp Nd.zero := ⟨1, by simp [shapeB_eq, partsB, Nd.zero, shapeL]⟩
theorem base_w {n : Nd} (h : Shp n) : MapW (baseM n) := by
  unfold baseM
  split
  · rename_i h4
    have hp := h.parts
    unfold partsB at hp
    simp only [Bool.and_eq_true, Bool.or_eq_true, decide_eq_true_eq] at hp
    obtain ⟨⟨⟨h1, h2⟩, h3⟩, _⟩ := hp
    refine ⟨h4, by rcases h1 with h | h <;> omega, ?_, h.asc h4, ((h.map h4).2).symm⟩
    rcases h2 with h | h
    · omega
    · have ht : n.text.toList = [] := by simpa using h
      exact of_decide_eq_true (by rw [← beq_toList, ht]; decide +kernel)
  · exact ⟨rfl, rfl, rfl, fun i j hi => by simp at hi, rfl⟩
theorem fresh_name {p : Nd} (hp : Shp p) (h4 : p.kind = 4) {i : Nat} (hi : i < p.names.length) : p.names[i] ∉ p.names.take i := fun hm => by
  obtain ⟨j, hj, he⟩ := List.getElem_of_mem hm
  rw [List.length_take] at hj
  rw [List.getElem_take] at he
  have := hp.asc h4 j i (by omega) hi (by omega)
  rw [he, lt_irr] at this; cases this
end Go.Proofs.Ytgfnmhfdmmnaoaa.Eng
namespace Go.Proofs.Ytgfnmhfdmmnaoaa.Eng
open Go Go.RowKit
section
variable {P : Program} {w0 : W0} {S0 : Nat → Prop} {rd0 : Option Nat} {k0 : Nat} {w : World} {a : Act} {s : ASt} {ρ : Cx}
end
section
variable {P : Program} {T : Tab} {hT : Tab.Ok P T} {hm : P.follows .mixedOrders = true} {w0 : W0} {S0 : Nat → Prop} {rd0 : Option Nat} {k0 : Nat} {Q : Exit → ASt → Prop} {s : ASt} {code : Code}
end
section
variable {P : Program} {T : Tab} {k0 : Nat} {md : List Nat} {Av : Nat → Prop} {ops : Array Oper} {K : ASt → Prop} {o : Oper} {l : List Oper} {s : ASt}
end
end Go.Proofs.Ytgfnmhfdmmnaoaa.Eng
-- EV: fresh
namespace Go.Proofs.Ytgfnmhfdmmnaoaa
open Go.RowKit
theorem openV_node {w : World} {S : Nat → Prop} {x : Nd} {v : Value} (h : RV nodeRep packA w S x v) : ∃ na nc ka kc, v = nodeV x na nc ka kc := by
  obtain ⟨na, nc, ka, kc, hv, _⟩ := node_open h
  exact ⟨na, nc, ka, kc, hv⟩
theorem cntT_zero : cntT Nd.zero = 0 := by unfold cntT Nd.zero; simp [cntL]
namespace Eng
def rNB (m : Nd) (b : Bool) (r : AV) : Prop := ∃ l : Lb, l.nd = m ∧ l.fp.Nodup ∧ r = .tup [labA l, .bool b]
theorem rNB_none {r : AV} (h : r = .tup [node0 0 0 ⟨#[]⟩, .bool false]) : Pur r ∧ (∀ B : Nat, ∀ b ∈ atB r, B ≤ b) ∧ ∃ r', Wk r r' ∧ (∀ b ∈ atB r', b ∈ atB r) ∧ rNB Nd.zero false r' := by
  subst h
  refine ⟨tup2_pur (node0_pur _ _ _) pur_bool, ?_, .tup [labA ⟨0, 0, ⟨#[]⟩, [], 0, [], 0⟩, .bool false], Wk.tup (.cons ?_ (.cons (Wk.refl _) .nil)), ?_, ⟨0, 0, ⟨#[]⟩, [], 0, [], 0⟩, by rw [nd_eq]; rfl, by rw [fp_eq]; simp [frB_fr], rfl⟩
  · intro B b hb
    simp [node0, at_tup, at_agg, atL_cons, atL_nil, at_int, at_str, at_bool, at_view, atE_nil, frB_tight] at hb
  · unfold node0 labA
    rw [labL_eq]
    exact .agg (.cons (Wk.refl _) (.cons (Wk.refl _) (.cons (Wk.refl _) (.cons (Wk.nil (fun h => by cases h)) (.cons (Wk.nil (fun h => by cases h)) .nil)))))
  · intro b hb
    rw [at_tup, atL_cons, at_lab, fp_eq] at hb
    simp [frB_fr, atL_cons, atL_nil, at_bool] at hb
theorem ACF.weak {P : Program} {f : FuncId} {args : List AV} {c : Nat} {Q : AV → Prop} (h : ACF P f args c (fun r => ∃ r', Wk r r' ∧ (∀ b ∈ atB r', b ∈ atB r) ∧ Q r')) : ACF P f args c Q :=
  ⟨h.1, fun w L S rb k vs h0 h1 h2 h3 => (h.2 w L S rb k vs h0 h1 h2 h3).mono fun e w' ⟨v, r, S', k1, k2, k3, k4, k5, k6, ⟨r', q1, q2, q3⟩, k8⟩ => ⟨v, r', S', k1, k2, k3, k4, k5, q1 _ _ _ k6, q3, fun b hb => k8 b (q2 b hb)⟩⟩
theorem at_tup2 (l : Lb) (b : Bool) : atB (.tup [labA l, .bool b]) = l.fp := by
  rw [at_tup, atL_cons, atL_cons, atL_nil, at_lab, at_bool]; simp
theorem acf_nb {P : Program} {f : FuncId} {args : List AV} {m : Nd} {b : Bool} (h : ACF P f args 0 (rNB m b)) (w : World) (vs : List Value) (hargs : RepL w (pureC nil (fun k => k < w.heap.size) none) args vs) :
    Calls P f vs.toArray w fun e w' => ∃ v fp, e = .returned (.tuple #[v, .bool b]) ∧ Grow w w' ∧ FV nodeRep packA w' m v fp ∧ Free w.heap.size w' fp := by
  refine (h.2 w nil (fun k => k < w.heap.size) none 0 vs (fun _ h => h.elim) (fun _ h => h) (fun _ h => by cases h) hargs).mono ?_
  rintro e w' ⟨v, r, S', rfl, hx, hS1, hS2, _, hr, ⟨l, rfl, hnp, rfl⟩, hb⟩
  rw [at_tup2] at hb
  obtain ⟨us, rfl, h2⟩ := rep_tup.1 hr
  obtain ⟨v0, p0, q0⟩ := h2.get (i := 0) rfl
  obtain ⟨v1, p1, q1⟩ := h2.get (i := 1) rfl
  have hl := h2.length
  simp only [List.length_cons, List.length_nil] at hl
  have hus : us = [v0, v1] := by
    apply List.ext_getElem?
    intro i
    rcases i with _ | _ | i
    · exact p0
    · exact p1
    · rw [List.getElem?_eq_none (by omega), List.getElem?_eq_none (by simp)]
  subst hus
  rw [rep_bool] at q1
  subst q1
  have hg := Grow.ofNone hx
  refine ⟨v0, l.fp, rfl, hg, fv_of_rep q0, hnp, fun k hk => ?_⟩
  have hat := q0.at k (by rw [at_lab]; exact hk)
  refine ⟨hb k hk, ?_, hat.2⟩
  rcases hS2 k hat.1 with h | h
  · exact Nat.lt_of_lt_of_le h hg.size
  · exact h.2
theorem ac_of_nb {P : Program} {f : FuncId} {args : List AV} {m : Nd} {b : Bool} (h : ACF P f args 0 (rNB m b)) : AC P f args 0 (fun r => r = .tup [nodeA m, .bool b]) := by
  refine AC.weak (h.toAC.mono ?_)
  rintro r ⟨l, rfl, _, rfl⟩
  exact ⟨.tup [nodeA l.nd, .bool b], Wk.tup (.cons (Wk.agg (labL_wk l)) (.cons (Wk.refl _) .nil)), rfl⟩
theorem arg_node {w : World} {n : Nd} {v : Value} (h : RV nodeRep packA w Go.Proofs.Ytgfnmhfdmmnaoaa.any n v) : Rep w (pureC nil (fun k => k < w.heap.size) none) (nodeA n) v := rep_of_node (node_open h.under)
theorem args1 {w : World} {ρ : Cx} {a : AV} {v : Value} (h : Rep w ρ a v) : RepL w ρ [a] [v] := by unfold RepL; exact ⟨_, _, rfl, h, by unfold RepL; rfl⟩
theorem args2 {w : World} {ρ : Cx} {a b : AV} {v u : Value} (h : Rep w ρ a v) (k : Rep w ρ b u) : RepL w ρ [a, b] [v, u] := by unfold RepL; exact ⟨_, _, rfl, h, args1 k⟩
end Eng
end Go.Proofs.Ytgfnmhfdmmnaoaa
namespace Go.Proofs.Ytgfnmhfdmmnaoaa.Eng
open Go Go.RowKit
def setK (n : Nd) (k : Nat) (v : Nd) : Nd := ⟨n.kind, n.num, n.text, n.names, n.kids.set k v⟩
def nmI (st : ByteArray) : List ByteArray → Nat
  | [] => 0
  | x :: xs => if lts st x then 0 else nmI st xs + 1
theorem nmI_le (st : ByteArray) : ∀ l : List ByteArray, nmI st l ≤ l.length
  | [] => Nat.le_refl _
  | x :: xs => by
    rw [nmI]
    split
    · exact Nat.zero_le _
    · have := nmI_le st xs; simp; omega
theorem nmI_drop {st : ByteArray} {l : List ByteArray} {i : Nat} (hi : i < l.length) (h : lts st l[i] = false) : nmI st (l.drop i) + i = nmI st (l.drop (i + 1)) + (i + 1) := by
  rw [List.drop_eq_getElem_cons hi, nmI, h]
  simp only [Bool.false_eq_true, if_false]; omega
theorem nmI_at {st : ByteArray} {l : List ByteArray} {i : Nat} (hi : i < l.length) (h : lts st l[i] = true) : nmI st (l.drop i) = 0 := by
  rw [List.drop_eq_getElem_cons hi, nmI, h]; rfl
def insL {α : Type} (l : List α) (i : Nat) (x : α) : List α := l.take i ++ [x] ++ l.drop i
def insKid (n : Nd) (i : Nat) (st : ByteArray) (v : Nd) : Nd := ⟨n.kind, 0, ⟨#[]⟩, if n.kind = 4 then insL n.names i st else [], insL n.kids i v⟩
def dash : ByteArray := ⟨#[45]⟩
def slotS (n : Nd) (st : ByteArray) : Option (Nat × Bool) :=
  if 0 ≤ placeI n st then some ((placeI n st).toNat, decide (n.kind = 4))
  else if n.kind = 3 ∧ (eqs st dash || eqs st (txt (dig1 n.kids.length))) = true then some (n.kids.length, false)
  else if n.kind = 4 then some (nmI st n.names, false) else none
def addK (n : Nd) (st : ByteArray) (v : Nd) : Option Nd :=
  (slotS n st).map (fun x => if x.2 then setK n x.1 v else insKid n x.1 st v)
structure Slt (n : Nd) : Prop where
  map : n.kind = 4 → n.names.length = n.kids.length
  lst : n.kind = 3 → n.kids.length ≤ 6
  sml : Sml n
theorem Slt.plc {n : Nd} (h : Slt n) : Plc n := ⟨fun h4 => by have := h.map h4; omega, fun h3 => by have := h.lst h3; omega⟩
theorem Shp.slt {n : Nd} (h : Shp n) : Slt n := ⟨fun h4 => ((h.map h4).2).symm, fun _ => h.kids, h.sml⟩
theorem slotS_lt {n : Nd} {st : ByteArray} (h : Slt n) {i : Nat} {b : Bool} (he : slotS n st = some (i, b)) : (b = true → n.kind = 4 ∧ i < n.kids.length) ∧ (b = false → (n.kind = 3 ∨ n.kind = 4) ∧ i ≤ n.kids.length) := by
  unfold slotS at he
  rcases placeI_cases n st with ⟨h1, _⟩ | ⟨k, h1, h2, h3⟩
  · rw [h1, if_neg (by omega)] at he
    split at he
    · rename_i h3
      cases he
      exact ⟨fun h => (by cases h), fun _ => ⟨.inl h3.1, Nat.le_refl _⟩⟩
    · split at he
      · rename_i h4
        cases he
        refine ⟨fun h => (by cases h), fun _ => ⟨.inr h4, ?_⟩⟩
        rw [← h.map h4]
        exact nmI_le _ _
      · cases he
  · rw [h2, if_pos (by omega), Int.toNat_natCast] at he
    cases he
    refine ⟨fun h => ⟨by simpa using h, h1⟩, fun h4 => ⟨.inl ?_, by omega⟩⟩
    simp at h4
    simp [hitP, h4] at h3
    exact h3.1
end Go.Proofs.Ytgfnmhfdmmnaoaa.Eng
