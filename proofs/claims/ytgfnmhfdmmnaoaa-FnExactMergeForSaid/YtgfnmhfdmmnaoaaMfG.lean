/-
  Texts of this claim, joined.
-/
import Derived.Test.YtgfnmhfdmmnaoaaMfF

set_option linter.unusedSimpArgs false
set_option linter.unusedVariables false
set_option linter.unnecessarySimpa false
set_option maxRecDepth 100000
set_option maxHeartbeats 16000000
-- EV: fresh
namespace Go.Proofs.Ytgfnmhfdmmnaoaa.Eng
open Go Go.RowKit
attribute [local simp] big size_mk ASt.pay Option.map_map Function.comp_def awant aop acall ado aev ofVal ofVal0 ASt.put ASt.add ASt.turn ASt.kill abox aalloc astore aload aloadD astoreD idOf ASt.at cellsTo afieldAddr afield aindexAddr aindex alen abin aint acmp astr aun apick aextract anil aslice abound abuild afill abuildSlice asCells aps avCells over upd aappend asrc amax amin aconv mkSt slots rowsOf_cons rowsOf_nil usedOf_cons usedOf_nil ZK.av List.replicate ASt.back ASt.addL ASt.killL nodeA nodeT nodeTL_eq nodeL_eq strsE_get strsE_len intsE_get intsE_len strsE_at intsE_at tab2 tab3 tab4 tab5 tab6 tab7 tab8 tab9 tab10 tab11 tab12 tab13 tab14 tab15 tab16 tab17 tab18 tab19 tab21 tab22 tab23 tab24 tab25 tab26 tab27 tab28 tab29 tab30 tab39 tab40 tab41 tab42 tab43 tab47 tab48 tab55 tab56 tab57 tab60 tab61 tab62 tab73 tab74 tab75 tab85 tab92 tab115 tab116 tab143 tab144 tab145 tab154 tab155 tab170 tab175 tab182 tab197 tab198 tab203 tab204 tab205 tab207 tab208 tab209
theorem fp_set {ks : List Lb} {l : Lb} (k : Nat) (h : (ks.flatMap Lb.fp).Nodup) (hl : l.fp.Nodup) (ha : ∀ b ∈ l.fp, ¬ b ∈ ks.flatMap Lb.fp) : ((ks.set k l).flatMap Lb.fp).Nodup := by
  induction ks generalizing k with
  | nil => simp
  | cons x ks ih =>
    rw [List.flatMap_cons] at h ha
    obtain ⟨h1, h2, h3⟩ := List.nodup_append.1 h
    cases k with
    | zero =>
      rw [List.set_cons_zero, List.flatMap_cons]
      exact List.nodup_append.2 ⟨hl, h2, fun a ha1 b hb e => ha a ha1 (List.mem_append_right _ (e ▸ hb))⟩
    | succ k =>
      rw [List.set_cons_succ, List.flatMap_cons]
      refine List.nodup_append.2 ⟨h1, ih k h2 (fun b hb hm => ha b hb (List.mem_append_right _ hm)), fun a ha1 b hb e => ?_⟩
      subst e
      obtain ⟨y, hy, hb⟩ := List.mem_flatMap.1 hb
      rcases List.mem_or_eq_of_mem_set hy with hy | hy
      · exact h3 a ha1 a (List.mem_flatMap.2 ⟨y, hy, hb⟩) rfl
      · exact ha a (hy ▸ hb) (List.mem_append_left _ ha1)
theorem fp_set_mem {ks : List Lb} {l : Lb} {k b : Nat} (h : b ∈ (ks.set k l).flatMap Lb.fp) : b ∈ ks.flatMap Lb.fp ∨ b ∈ l.fp := by
  obtain ⟨y, hy, hb⟩ := List.mem_flatMap.1 h
  rcases List.mem_or_eq_of_mem_set hy with hy | rfl
  · exact .inl (List.mem_flatMap.2 ⟨y, hy, hb⟩)
  · exact .inr hb
end Go.Proofs.Ytgfnmhfdmmnaoaa.Eng
-- EV: rows fresh
namespace Go.Proofs.Ytgfnmhfdmmnaoaa.Eng
open Go Go.RowKit
attribute [local simp] big size_mk ASt.pay Option.map_map Function.comp_def awant aop acall ado aev ofVal ofVal0 ASt.put ASt.add ASt.turn ASt.kill abox aalloc astore aload aloadD astoreD idOf ASt.at cellsTo afieldAddr afield aindexAddr aindex alen abin aint acmp astr aun apick aextract anil aslice abound abuild afill abuildSlice asCells aps avCells over upd aappend asrc amax amin aconv mkSt slots rowsOf_cons rowsOf_nil usedOf_cons usedOf_nil ZK.av List.replicate ASt.back ASt.addL ASt.killL nodeA nodeT nodeTL_eq nodeL_eq strsE_get strsE_len intsE_get intsE_len strsE_at intsE_at nodeN namesRow nodeO kidsRow tab2 tab3 tab4 tab5 tab6 tab7 tab8 tab9 tab10 tab11 tab12 tab13 tab14 tab15 tab16 tab17 tab18 tab19 tab21 tab22 tab23 tab24 tab25 tab26 tab27 tab28 tab29 tab30 tab39 tab40 tab41 tab42 tab43 tab47 tab48 tab55 tab56 tab57 tab60 tab61 tab62 tab73 tab74 tab75 tab85 tab92 tab115 tab116 tab143 tab144 tab145 tab154 tab155 tab170 tab175 tab182 tab197 tab198 tab203 tab204 tab205 tab207 tab208 tab209
theorem ndNames (l : Lb) : l.nd.names = l.names := by rw [nd_eq]
theorem ndKlen (l : Lb) : l.nd.kids.length = l.kids.length := by rw [nd_eq]; exact List.length_map _
theorem putLb_nd (l v : Lb) (nm : ByteArray) : (putLb l nm v).nd = putK l.nd nm v.nd := by
  rw [nd_eq]
  cases hm : mem l.names nm
  · rw [putLb_no hm, putK_no (by rw [ndNames]; exact hm)]
    rw [nd_eq l]
    simp [List.map_take, List.map_drop]
  · rw [putLb_yes hm, putK_yes (by rw [ndNames]; exact hm)]
    rw [nd_eq l]
    simp [List.map_set]
theorem fp_ins {ks : List Lb} {l : Lb} (k : Nat) : ((ks.take k ++ (l :: ks.drop k)).flatMap Lb.fp).Perm (l.fp ++ ks.flatMap Lb.fp) := by
  have h : (ks.take k ++ (l :: ks.drop k)).Perm (l :: ks) := by
    have := List.perm_middle (a := l) (l₁ := ks.take k) (l₂ := ks.drop k)
    rwa [List.take_append_drop] at this
  have := h.flatMap_right Lb.fp
  rwa [List.flatMap_cons] at this
theorem putLb_fp {l v : Lb} (nm : ByteArray) (h : (l.kids.flatMap Lb.fp).Nodup) (hv : v.fp.Nodup) (ha : ∀ b ∈ v.fp, ¬ b ∈ l.kids.flatMap Lb.fp) : ((putLb l nm v).kids.flatMap Lb.fp).Nodup := by
  cases hm : mem l.names nm
  · rw [putLb_no hm]
    dsimp only
    rw [(fp_ins _).nodup_iff]
    exact List.nodup_append.2 ⟨hv, h, fun a h1 b h2 e => ha a h1 (e ▸ h2)⟩
  · rw [putLb_yes hm]
    exact fp_set _ h hv ha
theorem putLb_fp_mem {l v : Lb} {nm : ByteArray} {b : Nat} (h : b ∈ (putLb l nm v).kids.flatMap Lb.fp) : b ∈ l.kids.flatMap Lb.fp ∨ b ∈ v.fp := by
  cases hm : mem l.names nm
  · rw [putLb_no hm] at h
    dsimp only at h
    rw [(fp_ins _).mem_iff, List.mem_append] at h
    exact h.symm
  · rw [putLb_yes hm] at h
    exact fp_set_mem h
end Go.Proofs.Ytgfnmhfdmmnaoaa.Eng
namespace Go.Proofs.Ytgfnmhfdmmnaoaa.Eng
open Go Go.RowKit
def emptyM : Nd := ⟨4, 0, ⟨#[]⟩, [], []⟩
def pbB (ns0 : List ByteArray) : List ByteArray → List Nd → Nd → Nd
  | _, [], r => r
  | ns, k :: ks, r => pbB ns0 ns.tail ks (if mem ns0 (ns.headD ⟨#[]⟩) then r else putK r (ns.headD ⟨#[]⟩) k)
mutual
def pb : Nd → Nd → Nd
  | ⟨kind, _, _, names, kids⟩, b => if kind = 4 ∧ b.kind = 4 then pbB names b.names b.kids (pbL names kids b emptyM) else b
def pbL : List ByteArray → List Nd → Nd → Nd → Nd
  | _, [], _, r => r
  | ns, k :: ks, b, r => pbL ns.tail ks b (if mem b.names (ns.headD ⟨#[]⟩) then (if cmpN k (kidOf b (ns.headD ⟨#[]⟩)) = 0 then r else putK r (ns.headD ⟨#[]⟩) (pb k (kidOf b (ns.headD ⟨#[]⟩)))) else putK r (ns.headD ⟨#[]⟩) Nd.zero)
end
def stA (b r : Nd) (nm : ByteArray) (k : Nd) : Nd := if mem b.names nm then (if cmpN k (kidOf b nm) = 0 then r else putK r nm (pb k (kidOf b nm))) else putK r nm Nd.zero
def stB (ns0 : List ByteArray) (r : Nd) (nm : ByteArray) (k : Nd) : Nd := if mem ns0 nm then r else putK r nm k
theorem pb_map {a b : Nd} (h1 : a.kind = 4) (h2 : b.kind = 4) : pb a b = pbB a.names b.names b.kids (pbL a.names a.kids b emptyM) := by cases a; rw [pb, if_pos ⟨h1, h2⟩]
theorem pb_no {a b : Nd} (h : ¬ (a.kind = 4 ∧ b.kind = 4)) : pb a b = b := by cases a; rw [pb, if_neg h]
theorem pbL_step {ns : List ByteArray} {ks : List Nd} {i : Nat} (h1 : i < ns.length) (h2 : i < ks.length) (b r : Nd) : pbL (ns.drop i) (ks.drop i) b r = pbL (ns.drop (i + 1)) (ks.drop (i + 1)) b (stA b r ns[i] ks[i]) := by
  rw [List.drop_eq_getElem_cons h1, List.drop_eq_getElem_cons h2, pbL]
  rfl
theorem pbB_step {ns0 ns : List ByteArray} {ks : List Nd} {i : Nat} (h1 : i < ns.length) (h2 : i < ks.length) (r : Nd) : pbB ns0 (ns.drop i) (ks.drop i) r = pbB ns0 (ns.drop (i + 1)) (ks.drop (i + 1)) (stB ns0 r ns[i] ks[i]) := by
  rw [List.drop_eq_getElem_cons h1, List.drop_eq_getElem_cons h2, pbB]
  rfl
theorem pbL_end {ns : List ByteArray} {ks : List Nd} {i : Nat} (h : ks.length ≤ i) (b r : Nd) : pbL ns (ks.drop i) b r = r := by
  rw [List.drop_of_length_le h, pbL]
theorem pbB_end {ns0 ns : List ByteArray} {ks : List Nd} {i : Nat} (h : ks.length ≤ i) (r : Nd) : pbB ns0 ns (ks.drop i) r = r := by
  rw [List.drop_of_length_le h, pbB]
theorem emptyM_w : MapW emptyM := ⟨rfl, rfl, rfl, fun i j hi => by simp [emptyM] at hi, rfl⟩
theorem mem_putK {r v : Nd} (h : MapW r) {nm x : ByteArray} (hx : mem (putK r nm v).names x = true) : x = nm ∨ mem r.names x = true := (putK_w h nm v).2.2.2 x hx
structure MidA (a : Nd) (i : Nat) (r : Nd) : Prop where
  w : MapW r
  wide : r.kids.length ≤ i
  sml : ∀ k ∈ r.kids, Sml k
  nm : ∀ x, mem r.names x = true → x ∈ a.names.take i
theorem MidA.start (a : Nd) : MidA a 0 emptyM := ⟨emptyM_w, Nat.le_refl _, fun k hk => (by cases hk), fun x hx => (by simp [emptyM, mem] at hx)⟩
theorem take_subP {xs : List ByteArray} {i : Nat} {x : ByteArray} (h : x ∈ xs.take i) : x ∈ xs.take (i + 1) := by
  rw [List.take_add_one]; exact List.mem_append_left _ h
theorem take_at {xs : List ByteArray} {i : Nat} (h : i < xs.length) : xs[i] ∈ xs.take (i + 1) := by
  have : (xs.take (i + 1))[i]? = some xs[i] := by rw [List.getElem?_take, if_pos (by omega), List.getElem?_eq_getElem h]
  exact List.mem_of_getElem? this
theorem MidA.skip {a r : Nd} {i : Nat} (h : MidA a i r) : MidA a (i + 1) r := ⟨h.w, by have := h.wide; omega, h.sml, fun x hx => take_subP (h.nm x hx)⟩
theorem MidA.put {a r v : Nd} {i : Nat} (h : MidA a i r) (hi : i < a.names.length) (hv : Sml v) : MidA a (i + 1) (putK r a.names[i] v) :=
  ⟨(putK_w h.w _ _).1, by have := h.wide; have := putK_klen (r := r) (nm := a.names[i]) (v := v); omega, fun k hk => by
    rcases putK_kids hk with rfl | hk
    · exact hv
    · exact h.sml k hk, fun x hx => by
    rcases mem_putK h.w hx with rfl | hx
    · exact take_at hi
    · exact take_subP (h.nm x hx)⟩
theorem MidA.next {a b r : Nd} {i : Nat} (h : MidA a i r) (hi : i < a.names.length) (hk : i < a.kids.length) (hs : Sml (pb a.kids[i] (kidOf b a.names[i]))) : MidA a (i + 1) (stA b r a.names[i] a.kids[i]) := by
  unfold stA
  split
  · split
    · exact h.skip
    · exact h.put hi hs
  · exact h.put hi shp_zero.sml
theorem MidA.free {a r : Nd} {i : Nat} (h : MidA a i r) (ha : Shp a) (h4 : a.kind = 4) (hi : i < a.names.length) : mem r.names a.names[i] = false := by
  cases hm : mem r.names a.names[i]
  · rfl
  · exact absurd (h.nm _ hm) (fresh_name ha h4 hi)
theorem MidA.smlR {a r : Nd} {i : Nat} (h : MidA a i r) (hi : i ≤ 6) : Sml r := .mk _ (by rw [h.w.len]; have := h.wide; omega) (by have := h.wide; omega) h.sml
structure MidB (a b : Nd) (i : Nat) (r : Nd) : Prop where
  w : MapW r
  wide : r.kids.length ≤ 6 + i
  sml : ∀ k ∈ r.kids, Sml k
  nm : ∀ x, mem r.names x = true → x ∈ a.names ∨ x ∈ b.names.take i
theorem MidA.toB {a b r : Nd} {i : Nat} (h : MidA a i r) (hi : i ≤ 6) : MidB a b 0 r := ⟨h.w, by have := h.wide; omega, h.sml, fun x hx => .inl (List.mem_of_mem_take (h.nm x hx))⟩
theorem MidB.next {a b r : Nd} {i : Nat} (h : MidB a b i r) (hb : Shp b) (hi : i < b.names.length) (hk : i < b.kids.length) : MidB a b (i + 1) (stB a.names r b.names[i] b.kids[i]) := by
  unfold stB
  split
  · exact ⟨h.w, by have := h.wide; omega, h.sml, fun x hx => (h.nm x hx).imp id take_subP⟩
  · exact ⟨(putK_w h.w _ _).1, by have := h.wide; have := putK_klen (r := r) (nm := b.names[i]) (v := b.kids[i]); omega, fun k hk' => by
      rcases putK_kids hk' with rfl | hk'
      · exact (hb.kid (List.getElem_mem hk)).sml
      · exact h.sml k hk', fun x hx => by
      rcases mem_putK h.w hx with rfl | hx
      · exact .inr (take_at hi)
      · exact (h.nm x hx).imp id take_subP⟩
theorem MidB.free {a b r : Nd} {i : Nat} (h : MidB a b i r) (hb : Shp b) (h4 : b.kind = 4) (hi : i < b.names.length) (hm0 : mem a.names b.names[i] = false) : mem r.names b.names[i] = false := by
  cases hm : mem r.names b.names[i]
  · rfl
  · rcases h.nm _ hm with h | h
    · rw [mem_iff.2 h] at hm0; cases hm0
    · exact absurd h (fresh_name hb h4 hi)
theorem MidB.smlR {a b r : Nd} {i : Nat} (h : MidB a b i r) (hi : i ≤ 6) : Sml r := .mk _ (by rw [h.w.len]; have := h.wide; omega) (by have := h.wide; omega) h.sml
theorem kid_shp {b : Nd} (h : Shp b) (h4 : b.kind = 4) {x : ByteArray} (hm : mem b.names x = true) : Shp (kidOf b x) :=
  h.kid (kidOf_mem (h.asc h4) (by rw [(h.map h4).2]; exact Nat.le_refl _) hm)
theorem pb_loopA {a b : Nd} (ha : Shp a) (h4 : a.kind = 4) (I : Nat → Nd → Prop) (h0 : I 0 emptyM) (hs : ∀ i (hi : i < a.names.length) (hk : i < a.kids.length) r, I i r → I (i + 1) (stA b r a.names[i] a.kids[i])) : I a.kids.length (pbL a.names a.kids b emptyM) := by
  have hl := (ha.map h4).2
  have key : ∀ j, j ≤ a.kids.length → ∃ r, I j r ∧ pbL (a.names.drop j) (a.kids.drop j) b r = pbL a.names a.kids b emptyM := fun j => by
    induction j with
    | zero => exact fun _ => ⟨_, h0, rfl⟩
    | succ j ih =>
      intro hj
      obtain ⟨r, h1, h2⟩ := ih (by omega)
      rw [pbL_step (by omega) (by omega)] at h2
      exact ⟨_, hs j (by omega) (by omega) r h1, h2⟩
  obtain ⟨r, h1, h2⟩ := key _ (Nat.le_refl _)
  rw [pbL_end (Nat.le_refl _)] at h2
  rw [← h2]; exact h1
theorem pb_loopB {a b : Nd} (hb : Shp b) (h4 : b.kind = 4) (r0 : Nd) (I : Nat → Nd → Prop) (h0 : I 0 r0) (hs : ∀ i (hi : i < b.names.length) (hk : i < b.kids.length) r, I i r → I (i + 1) (stB a.names r b.names[i] b.kids[i])) : I b.kids.length (pbB a.names b.names b.kids r0) := by
  have hl := (hb.map h4).2
  have key : ∀ j, j ≤ b.kids.length → ∃ r, I j r ∧ pbB a.names (b.names.drop j) (b.kids.drop j) r = pbB a.names b.names b.kids r0 := fun j => by
    induction j with
    | zero => exact fun _ => ⟨_, h0, rfl⟩
    | succ j ih =>
      intro hj
      obtain ⟨r, h1, h2⟩ := ih (by omega)
      rw [pbB_step (by omega) (by omega)] at h2
      exact ⟨_, hs j (by omega) (by omega) r h1, h2⟩
  obtain ⟨r, h1, h2⟩ := key _ (Nat.le_refl _)
  rw [pbB_end (Nat.le_refl _)] at h2
  rw [← h2]; exact h1
theorem pb_sml : ∀ a, Shp a → ∀ b, Shp b → Sml (pb a b) := Nd.ind' _ (fun a ih ha b hb => by
  by_cases h4 : a.kind = 4 ∧ b.kind = 4
  · have h6 := ha.kids
    have h6b := hb.kids
    rw [pb_map h4.1 h4.2]
    have hA := pb_loopA (b := b) ha h4.1 (MidA a) (MidA.start a) (fun i hi hk r h => by
      by_cases hm : mem b.names a.names[i] = true
      · exact h.next hi hk (ih _ (List.getElem_mem hk) (ha.kid (List.getElem_mem hk)) _ (kid_shp hb h4.2 hm))
      · have : stA b r a.names[i] a.kids[i] = putK r a.names[i] Nd.zero := by unfold stA; rw [if_neg hm]
        rw [this]
        exact h.put hi shp_zero.sml)
    have hB := pb_loopB (a := a) hb h4.2 _ (MidB a b) (hA.toB h6) (fun i hi hk r h => h.next hb hi hk)
    exact hB.smlR h6b
  · rw [pb_no h4]; exact hb.sml)
theorem MidA.nextS {a b r : Nd} {i : Nat} (h : MidA a i r) (ha : Shp a) (hb : Shp b) (h4 : b.kind = 4) (hi : i < a.names.length) (hk : i < a.kids.length) : MidA a (i + 1) (stA b r a.names[i] a.kids[i]) := by
  by_cases hm : mem b.names a.names[i] = true
  · exact h.next hi hk (pb_sml _ (ha.kid (List.getElem_mem hk)) _ (kid_shp hb h4 hm))
  · have : stA b r a.names[i] a.kids[i] = putK r a.names[i] Nd.zero := by unfold stA; rw [if_neg hm]
    rw [this]
    exact h.put hi shp_zero.sml
end Go.Proofs.Ytgfnmhfdmmnaoaa.Eng
-- EV: skip
namespace Go.Proofs.Ytgfnmhfdmmnaoaa.Eng
open Go Go.RowKit
attribute [local simp] big size_mk ASt.pay Option.map_map Function.comp_def awant aop acall ado aev ofVal ofVal0 ASt.put ASt.add ASt.turn ASt.kill abox aalloc astore aload aloadD astoreD idOf ASt.at cellsTo afieldAddr afield aindexAddr aindex alen abin aint acmp astr aun apick aextract anil aslice abound abuild afill abuildSlice asCells aps avCells over upd aappend asrc amax amin aconv mkSt slots rowsOf_cons rowsOf_nil usedOf_cons usedOf_nil ZK.av List.replicate ASt.back ASt.addL ASt.killL nodeA nodeT nodeTL_eq nodeL_eq strsE_get strsE_len intsE_get intsE_len strsE_at intsE_at tab2 tab3 tab4 tab5 tab6 tab7 tab8 tab9 tab10 tab11 tab12 tab13 tab14 tab15 tab16 tab17 tab18 tab19 tab21 tab22 tab23 tab24 tab25 tab26 tab27 tab28 tab29 tab30 tab39 tab40 tab41 tab42 tab43 tab47 tab48 tab55 tab56 tab57 tab60 tab61 tab62 tab73 tab74 tab75 tab85 tab92 tab115 tab116 tab143 tab144 tab145 tab154 tab155 tab170 tab175 tab182 tab197 tab198 tab203 tab204 tab205 tab207 tab208 tab209
theorem compareValid_AC (a b : Nd) (ha : Good a) (hb : Good b) : AC Try.prog 189 [nodeA a, nodeA b] 0 (fun r => r = .int .i64 (cmpN a b)) := by
  refine AC.ofGrow (enters_of Try.func189 (by kernel_rfl) (by kernel_rfl)) (fun w L S rb vs h => ?_)
  obtain ⟨v, u, rfl, h1, h2⟩ := repL2_inv h
  refine (compareValid_ok a b v u w ha hb (nodeA_of_rep h1) (nodeA_of_rep h2)).mono ?_
  rintro e w' ⟨rfl, hg⟩
  exact ⟨_, _, rfl, hg, rep_int.2 rfl, rfl⟩
theorem specCompare_AC (a b : Nd) (ha : Good a) (hb : Good b) : AC Try.prog 148 [nodeA a, nodeA b] 0 (fun r => r = .int .i64 (cmpN a b)) := by
  refine AC.ofGrow (enters_of Try.func148 (by kernel_rfl) (by kernel_rfl)) (fun w L S rb vs h => ?_)
  obtain ⟨v, u, rfl, h1, h2⟩ := repL2_inv h
  refine (compare_ok a b v u w ha hb (nodeA_of_rep h1) (nodeA_of_rep h2)).mono ?_
  rintro e w' ⟨rfl, hg⟩
  exact ⟨_, _, rfl, hg, rep_int.2 rfl, rfl⟩
theorem sameNode_AC (a b : Nd) (ha : Good a) (hb : Good b) : AC Try.prog 168 [nodeA a, nodeA b] 0 (fun r => r = .bool (cmpN a b == 0)) := by
  have p1 := compareValid_AC a b ha hb
  unfold nodeA at p1 ⊢
  rw [nodeL_eq a, nodeL_eq b] at p1 ⊢
  generalize cmpN a b = z at *
  refine AC.of tab_ok mixed_ok Try.func168 (by rfl) (by kernel_rfl) ?_; rintro ⟨P, T, hT, hm, w0, S0, rd0, k0⟩ hP hTT; dsimp only at hP hTT; subst hP hTT; unfold initSt; rw [Try.ntmps168]
  (repeat (first | with_reducible refine AW.seq ?_ | ((first | refine arun_kn 4 rfl (fun C hC => ?_) | refine arunD_kn 4 rfl (fun C hC => ?_)); (repeat ((conv => whnf); simp)); refine hC _ ?_; clear hC C; simp only [List.drop, Nat.reduceAdd]) | ((first | refine arun_kn 1 rfl (fun C hC => ?_) | refine arunD_kn 1 rfl (fun C hC => ?_)); (repeat ((conv => whnf); simp)); refine hC _ ?_; clear hC C; simp only [List.drop, Nat.reduceAdd]) | (refine arun_skip ?_ ?_; (focus (simp [awant]; done))) | (refine arun_c0 (p1) ?_; rintro _ rfl) | (refine arunD_skip ?_ ?_; (focus (simp [awant]; done))) | (refine AW.regionK [] (fun K hK => ?_)) | (refine AW.regionDK [] (pcs [] []) (by kernel_rfl) (by kernel_rfl) (fun K hK => ?_)) | (refine AW.condT ?_ ?_; (focus (simp [aev]; done))) | (refine AW.condF ?_ ?_; (focus (simp [aev]; done))) | with_reducible refine AW.block ?_ | ((first | ((first | refine arun_nil ?_ | refine arunD_nil ?_); refine hK _ ?_; clear hK K) | refine AW.skip ?_ | refine AW.exit ?_ | refine AW.ret ?_); simp only [thenA_exit, inBlockA_exit, if_true, if_false, Nat.reduceEqDiff, thenA_normal, inBlockA_normal, reduceIte, thenA_ret, inBlockA_ret, endQ_ret, endR_ret, endG_ret, endQ_normal, endR_normal, endG_normal])))
  exact ⟨.bool (z == 0), by simp [ares, aresL, upd], pur_bool, rfl⟩
theorem specSame_AC (a b : Nd) (ha : Good a) (hb : Good b) : AC Try.prog 96 [nodeA a, nodeA b] 0 (fun r => r = .bool (cmpN a b == 0)) := by
  have p1 := specCompare_AC a b ha hb
  unfold nodeA at p1 ⊢
  rw [nodeL_eq a, nodeL_eq b] at p1 ⊢
  generalize cmpN a b = z at *
  refine AC.of tab_ok mixed_ok Try.func96 (by rfl) (by kernel_rfl) ?_; rintro ⟨P, T, hT, hm, w0, S0, rd0, k0⟩ hP hTT; dsimp only at hP hTT; subst hP hTT; unfold initSt; rw [Try.ntmps96]
  (repeat (first | with_reducible refine AW.seq ?_ | ((first | refine arun_kn 4 rfl (fun C hC => ?_) | refine arunD_kn 4 rfl (fun C hC => ?_)); (repeat ((conv => whnf); simp)); refine hC _ ?_; clear hC C; simp only [List.drop, Nat.reduceAdd]) | ((first | refine arun_kn 1 rfl (fun C hC => ?_) | refine arunD_kn 1 rfl (fun C hC => ?_)); (repeat ((conv => whnf); simp)); refine hC _ ?_; clear hC C; simp only [List.drop, Nat.reduceAdd]) | (refine arun_skip ?_ ?_; (focus (simp [awant]; done))) | (refine arun_c0 (p1) ?_; rintro _ rfl) | (refine arunD_skip ?_ ?_; (focus (simp [awant]; done))) | (refine AW.regionK [] (fun K hK => ?_)) | (refine AW.regionDK [] (pcs [] []) (by kernel_rfl) (by kernel_rfl) (fun K hK => ?_)) | (refine AW.condT ?_ ?_; (focus (simp [aev]; done))) | (refine AW.condF ?_ ?_; (focus (simp [aev]; done))) | with_reducible refine AW.block ?_ | ((first | ((first | refine arun_nil ?_ | refine arunD_nil ?_); refine hK _ ?_; clear hK K) | refine AW.skip ?_ | refine AW.exit ?_ | refine AW.ret ?_); simp only [thenA_exit, inBlockA_exit, if_true, if_false, Nat.reduceEqDiff, thenA_normal, inBlockA_normal, reduceIte, thenA_ret, inBlockA_ret, endQ_ret, endR_ret, endG_ret, endQ_normal, endR_normal, endG_normal])))
  exact ⟨.bool (z == 0), by simp [ares, aresL, upd], pur_bool, rfl⟩
end Go.Proofs.Ytgfnmhfdmmnaoaa.Eng
-- EV: rows fresh
namespace Go.Proofs.Ytgfnmhfdmmnaoaa.Eng
open Go Go.RowKit
attribute [local simp] big size_mk ASt.pay Option.map_map Function.comp_def awant aop acall ado aev ofVal ofVal0 ASt.put ASt.add ASt.turn ASt.kill abox aalloc astore aload aloadD astoreD idOf ASt.at cellsTo afieldAddr afield aindexAddr aindex alen abin aint acmp astr aun apick aextract anil aslice abound abuild afill abuildSlice asCells aps avCells over upd aappend asrc amax amin aconv mkSt slots rowsOf_cons rowsOf_nil usedOf_cons usedOf_nil ZK.av List.replicate ASt.back ASt.addL ASt.killL nodeA nodeT nodeTL_eq nodeL_eq strsE_get strsE_len intsE_get intsE_len strsE_at intsE_at nodeN namesRow nodeO kidsRow tab2 tab3 tab4 tab5 tab6 tab7 tab8 tab9 tab10 tab11 tab12 tab13 tab14 tab15 tab16 tab17 tab18 tab19 tab21 tab22 tab23 tab24 tab25 tab26 tab27 tab28 tab29 tab30 tab39 tab40 tab41 tab42 tab43 tab47 tab48 tab55 tab56 tab57 tab60 tab61 tab62 tab73 tab74 tab75 tab85 tab92 tab115 tab116 tab143 tab144 tab145 tab154 tab155 tab170 tab175 tab182 tab197 tab198 tab203 tab204 tab205 tab207 tab208 tab209
def zeroLb : Lb := ⟨0, 0, ⟨#[]⟩, [], 0, [], 0⟩
theorem zeroLb_nd : zeroLb.nd = Nd.zero := by rw [nd_eq]; rfl
theorem zeroLb_fp : zeroLb.fp = [] := by rw [fp_eq]; rfl
theorem zeroLb_eq : labL zeroLb = [.int .i64 0, .int .i64 0, .str ⟨#[]⟩, .view (.fr 0) 1 [], .view (.fr 0) 5 []] := by rw [labL_eq]; rfl
theorem zeroLb_wk : Wk (.agg [.int .i64 0, .int .i64 0, .str ⟨#[]⟩, .view .tight 0 [], .view .tight 0 []]) (.agg [.int .i64 0, .int .i64 0, .str ⟨#[]⟩, .view (.fr 0) 1 [], .view (.fr 0) 5 []]) :=
  Wk.agg (.cons (Wk.refl _) (.cons (Wk.refl _) (.cons (Wk.refl _) (.cons (Wk.nil (fun h => by cases h)) (.cons (Wk.nil (fun h => by cases h)) .nil)))))
theorem Shp.goodS {n : Nd} (h : Shp n) : Good n := h
theorem patchBetweenF_step (a b : Nd) (ha : Shp a) (hb : Shp b) (ih : ∀ k ∈ a.kids, ∀ m, Shp m → ACF Try.prog 127 [nodeA k, nodeA m] 0 (rLab (pb k m))) : ACF Try.prog 127 [nodeA a, nodeA b] 0 (rLab (pb a b)) := by
  unfold nodeA
  rw [nodeL_eq a, nodeL_eq b]
  refine ACF.of tab_ok mixed_ok Try.func127 (by rfl) (by kernel_rfl) ?_; rintro ⟨P, T, hT, hm, w0, S0, rd0, k0⟩ hP hTT hN; dsimp only at hP hTT hN; subst hP hTT; dsimp only; unfold initSt; rw [Try.ntmps127]
  by_cases h4 : a.kind = 4 ∧ b.kind = 4
  rotate_left
  · have hpc := implCopyF_ACF b hb.sml
    unfold nodeA at hpc
    rw [nodeL_eq b] at hpc
    rw [pb_no h4]
    cases hka : (a.kind != 4)
    · have hkb : (b.kind != 4) = true := by
        have h1 : a.kind = 4 := by simpa using hka
        have : ¬ b.kind = 4 := fun h => h4 ⟨h1, h⟩
        simpa using this
      (repeat (first | with_reducible refine AW.seq ?_ | ((first | refine arun_kn 4 rfl (fun C hC => ?_) | refine arunD_kn 4 rfl (fun C hC => ?_)); (repeat ((conv => whnf); simp [hka, hkb])); refine hC _ ?_; clear hC C; simp only [List.drop, Nat.reduceAdd]) | ((first | refine arun_kn 1 rfl (fun C hC => ?_) | refine arunD_kn 1 rfl (fun C hC => ?_)); (repeat ((conv => whnf); simp [hka, hkb])); refine hC _ ?_; clear hC C; simp only [List.drop, Nat.reduceAdd]) | (refine arun_skip ?_ ?_; (focus (simp [awant, hka, hkb]; done))) | (refine arun_cF (0) (hpc) ?_; (rintro _ ⟨l, hl, hlp, rfl⟩ hA)) | (refine arunD_cF (0) (hpc) (by refine ⟨_, rfl, ?_⟩; first | exact node_in _ | exact storeA_in _ | exact item_in _ | exact in_int | exact in_bool | exact in_str | (simp [NoId, in_tup, in_agg, in_int, in_bool, in_str, node_in, nodes_in, strs_in]; done)) ?_; (rintro _ ⟨l, hl, hlp, rfl⟩ hA); intro _) | (refine AW.regionK [] (fun K hK => ?_)) | (refine AW.regionDK [] (pcs [] []) (by kernel_rfl) (by kernel_rfl) (fun K hK => ?_)) | (refine AW.condT ?_ ?_; (focus (simp [aev, hka, hkb]; done))) | (refine AW.condF ?_ ?_; (focus (simp [aev, hka, hkb]; done))) | with_reducible refine AW.block ?_ | ((first | ((first | refine arun_nil ?_ | refine arunD_nil ?_); refine hK _ ?_; clear hK K) | refine AW.skip ?_ | refine AW.exit ?_ | refine AW.ret ?_); simp only [thenA_exit, inBlockA_exit, if_true, if_false, Nat.reduceEqDiff, thenA_normal, inBlockA_normal, reduceIte, thenA_ret, inBlockA_ret, endQ_ret, endR_ret, endG_ret, endQ_normal, endR_normal, endG_normal, endF_ret, endF_normal])))
      have hA' : ∀ b ∈ l.fp, ¬ w0.A b := fun b hb => hA b (by rw [at_agg, ← labL_eq]; exact hb)
      exact ⟨labA l, by simp [labA, labL_eq, ares, aresL, upd, rowsOf_cons], lab_pur l, fun b hb => by rw [at_lab] at hb; exact hN.ge (hA' b hb), l, hl, hlp, rfl⟩
    · (repeat (first | with_reducible refine AW.seq ?_ | ((first | refine arun_kn 4 rfl (fun C hC => ?_) | refine arunD_kn 4 rfl (fun C hC => ?_)); (repeat ((conv => whnf); simp [hka])); refine hC _ ?_; clear hC C; simp only [List.drop, Nat.reduceAdd]) | ((first | refine arun_kn 1 rfl (fun C hC => ?_) | refine arunD_kn 1 rfl (fun C hC => ?_)); (repeat ((conv => whnf); simp [hka])); refine hC _ ?_; clear hC C; simp only [List.drop, Nat.reduceAdd]) | (refine arun_skip ?_ ?_; (focus (simp [awant, hka]; done))) | (refine arun_cF (0) (hpc) ?_; (rintro _ ⟨l, hl, hlp, rfl⟩ hA)) | (refine arunD_cF (0) (hpc) (by refine ⟨_, rfl, ?_⟩; first | exact node_in _ | exact storeA_in _ | exact item_in _ | exact in_int | exact in_bool | exact in_str | (simp [NoId, in_tup, in_agg, in_int, in_bool, in_str, node_in, nodes_in, strs_in]; done)) ?_; (rintro _ ⟨l, hl, hlp, rfl⟩ hA); intro _) | (refine AW.regionK [] (fun K hK => ?_)) | (refine AW.regionDK [] (pcs [] []) (by kernel_rfl) (by kernel_rfl) (fun K hK => ?_)) | (refine AW.condT ?_ ?_; (focus (simp [aev, hka]; done))) | (refine AW.condF ?_ ?_; (focus (simp [aev, hka]; done))) | with_reducible refine AW.block ?_ | ((first | ((first | refine arun_nil ?_ | refine arunD_nil ?_); refine hK _ ?_; clear hK K) | refine AW.skip ?_ | refine AW.exit ?_ | refine AW.ret ?_); simp only [thenA_exit, inBlockA_exit, if_true, if_false, Nat.reduceEqDiff, thenA_normal, inBlockA_normal, reduceIte, thenA_ret, inBlockA_ret, endQ_ret, endR_ret, endG_ret, endQ_normal, endR_normal, endG_normal, endF_ret, endF_normal])))
      have hA' : ∀ b ∈ l.fp, ¬ w0.A b := fun b hb => hA b (by rw [at_agg, ← labL_eq]; exact hb)
      exact ⟨labA l, by simp [labA, labL_eq, ares, aresL, upd, rowsOf_cons], lab_pur l, fun b hb => by rw [at_lab] at hb; exact hN.ge (hA' b hb), l, hl, hlp, rfl⟩
  obtain ⟨h4a, h4b⟩ := h4
  have hka : (a.kind != 4) = false := by simp [h4a]
  have hkb : (b.kind != 4) = false := by simp [h4b]
  have h6 := ha.kids
  have h6b := hb.kids
  have hla := (ha.map h4a).2
  have hlb := (hb.map h4b).2
  have hasa := ha.asc h4a
  have hasb := hb.asc h4b
  rw [pb_map h4a h4b]
  obtain ⟨R1, hR1⟩ : ∃ R1, R1 = pbL a.names a.kids b emptyM := ⟨_, rfl⟩
  rw [← hR1]
  have hM1 : MidB a b 0 R1 := by
    rw [hR1]
    exact (pb_loopA (b := b) ha h4a (MidA a) (MidA.start a) (fun i hi hk r h => h.nextS ha hb h4b hi hk)).toB h6
  (repeat (first | with_reducible refine AW.seq ?_ | ((first | refine arun_kn 4 rfl (fun C hC => ?_) | refine arunD_kn 4 rfl (fun C hC => ?_)); (repeat ((conv => whnf); simp [hka, hkb])); refine hC _ ?_; clear hC C; simp only [List.drop, Nat.reduceAdd]) | ((first | refine arun_kn 1 rfl (fun C hC => ?_) | refine arunD_kn 1 rfl (fun C hC => ?_)); (repeat ((conv => whnf); simp [hka, hkb])); refine hC _ ?_; clear hC C; simp only [List.drop, Nat.reduceAdd]) | (refine arun_skip ?_ ?_; (focus (simp [awant, hka, hkb]; done))) | (refine AW.regionK [] (fun K hK => ?_)) | (refine AW.regionDK [] (pcs [] []) (by kernel_rfl) (by kernel_rfl) (fun K hK => ?_)) | (refine AW.condT ?_ ?_; (focus (simp [aev, hka, hkb]; done))) | (refine AW.condF ?_ ?_; (focus (simp [aev, hka, hkb]; done))) | with_reducible refine AW.block ?_ | ((first | ((first | refine arun_nil ?_ | refine arunD_nil ?_); refine hK _ ?_; clear hK K) | refine AW.skip ?_ | refine AW.exit ?_ | refine AW.ret ?_); simp only [thenA_exit, inBlockA_exit, if_true, if_false, Nat.reduceEqDiff, thenA_normal, inBlockA_normal, reduceIte, thenA_ret, inBlockA_ret, endQ_ret, endR_ret, endG_ret, endQ_normal, endR_normal, endG_normal, endF_ret, endF_normal])))
  refine AW.adoptB 5 3 100 9 1 ⟨_, tab9, rfl⟩ (by simp [upd]; rfl) rfl rfl (by simp [upd]) ?_
  simp only [ASt.adoptB]
  refine AW.adoptB 5 4 101 30 5 ⟨_, tab30, rfl⟩ (by simp [upd]; rfl) rfl rfl (by simp [upd]) ?_
  simp only [ASt.adoptB]
  (repeat (first | with_reducible refine AW.seq ?_ | ((first | refine arun_kn 4 rfl (fun C hC => ?_) | refine arunD_kn 4 rfl (fun C hC => ?_)); (repeat ((conv => whnf); simp [strsE_len])); refine hC _ ?_; clear hC C; simp only [List.drop, Nat.reduceAdd]) | ((first | refine arun_kn 1 rfl (fun C hC => ?_) | refine arunD_kn 1 rfl (fun C hC => ?_)); (repeat ((conv => whnf); simp [strsE_len])); refine hC _ ?_; clear hC C; simp only [List.drop, Nat.reduceAdd]) | (refine arun_skip ?_ ?_; (focus (simp [awant, strsE_len]; done))) | (refine AW.regionK [] (fun K hK => ?_)) | (refine AW.regionDK [] (pcs [] []) (by kernel_rfl) (by kernel_rfl) (fun K hK => ?_)) | (refine AW.condT ?_ ?_; (focus (simp [aev, strsE_len]; done))) | (refine AW.condF ?_ ?_; (focus (simp [aev, strsE_len]; done))) | with_reducible refine AW.block ?_ | ((first | ((first | refine arun_nil ?_ | refine arunD_nil ?_); refine hK _ ?_; clear hK K) | refine AW.skip ?_ | refine AW.exit ?_ | refine AW.ret ?_); simp only [thenA_exit, inBlockA_exit, if_true, if_false, Nat.reduceEqDiff, thenA_normal, inBlockA_normal, reduceIte, thenA_ret, inBlockA_ret, endQ_ret, endR_ret, endG_ret, endQ_normal, endR_normal, endG_normal, endF_ret, endF_normal])))
  refine AW.loopS (fun (x : Nat × Lb) => mkSt (slots 0 100 [(2, .ptr true 5 1 2 0 0), (3, .ptr true 5 1 3 0 0), (4, .ptr true 5 1 4 0 0), (5, .ptr true 5 1 5 0 0), (26, .view .loose 1 (strsE a.names)), (27, .int .i64 a.names.length), (28, .int .i64 x.1)]) [(2, ⟨true, 30, 5, [nodeL a]⟩), (3, ⟨true, 30, 5, [nodeL b]⟩), (4, ⟨true, 30, 5, [zeroN]⟩), (5, boxLb x.2 100 101), (100, namesR x.2.names), (101, labsR x.2.kids)] [2, 3, 4, 5, 100, 101] (rd0.map fun _ => 0)) (fun x => a.names.length - x.1) (fun x => x.1 ≤ a.names.length ∧ MidA a x.1 x.2.nd ∧ pbL (a.names.drop x.1) (a.kids.drop x.1) b x.2.nd = R1 ∧ (x.2.kids.flatMap Lb.fp).Nodup ∧ ∀ b ∈ x.2.kids.flatMap Lb.fp, w0.wd.heap.size ≤ b) (0, ⟨4, 0, ⟨#[]⟩, [], 0, [], 0⟩) ?_ ⟨Nat.zero_le _, by dsimp only; rw [nd_eq]; exact MidA.start a, by dsimp only; rw [nd_eq, hR1]; rfl, by simp, by simp⟩ ?_
  · dsimp only
    rw [nodeL_eq a, nodeL_eq b]
    have hs0 : strsE ([] : List ByteArray) = [] := rfl
    exact (less_of (by simp [lessL, mkSt, slots, boxLb, namesR, labsR, zeroN, hs0, nodeN, namesRow, nodeO, kidsRow]) (by simp [upd, mkSt, rowsOf_cons, boxLb, namesR, labsR, zeroN, hs0, nodeN, namesRow, nodeO, kidsRow]) (by simp [upd, mkSt, usedOf_cons, boxLb, namesR, labsR, zeroN, hs0, nodeN, namesRow, nodeO, kidsRow]) (by first | exact rd_less (by omega) | simp [mkSt, boxLb, namesR, labsR, zeroN, hs0, nodeN, namesRow, nodeO, kidsRow]) (by simp [slots, in_any, in_int, in_bool, in_str, in_ptr, in_own, in_agg, in_vnil, in_rdr, usedOf_cons, usedOf_nil, strs_in, ints_in, nodes_in, in_tup, boxLb, namesR, labsR, zeroN, hs0, nodeN, namesRow, nodeO, kidsRow]) (by simp only [List.forall_mem_cons, List.not_mem_nil, false_implies, implies_true, and_true, true_and, boxLb, namesR, labsR, zeroN, hs0, nodeN, namesRow, nodeO, kidsRow]; (repeat (first | with_reducible exact trivial | with_reducible refine And.intro ?_ ?_ | with_reducible exact in_int | with_reducible exact in_str | with_reducible exact in_bool | with_reducible exact strs_in _ | with_reducible exact nodes_in _ | with_reducible exact items_in _ | with_reducible exact in_vnil | with_reducible exact in_any | exact hin _ | with_reducible refine take_in ?_ | with_reducible exact strsE_in _ | with_reducible exact nodesE_in _ | with_reducible exact nodeL_in _ | with_reducible exact itemsE_in _ | with_reducible exact itemL_in _ | with_reducible refine app_in ?_ ?_ | with_reducible refine sing_in ?_ | (focus (simp [in_any, in_int, in_bool, in_str, in_ptr, in_own, in_agg, in_vnil, in_rdr, usedOf_cons, usedOf_nil, strs_in, ints_in, nodes_in, boxLb, namesR, labsR, zeroN, hs0, nodeN, namesRow, nodeO, kidsRow]; done)))); done))
  rintro ⟨i, r0⟩ ⟨hi, hm, hf, hkn, hkA⟩
  dsimp only at hi hm hf hkn hkA ⊢
  rw [nodeL_eq a, nodeL_eq b]
  by_cases hlt : i < a.names.length
  · have hk : i < a.kids.length := by omega
    have hwi : IntKind.i64.wrap ((i : Int) + 1) = ((i + 1 : Nat) : Int) := by rw [i64_nat (by omega) (by omega)]; simp
    have hnext := hm.nextS ha hb h4b hlt hk
    rw [pbL_step hlt hk] at hf
    have hwd := hm.wide
    have hrk := ndKlen r0
    have hrn := ndNames r0
    have hasc : Asc r0.names := by rw [← hrn]; exact hm.w.asc
    have hrl : r0.names.length = r0.kids.length := by rw [← hrn, ← hrk]; exact hm.w.len
    have pbs := bsearch_AC b.names a.names[i] .loose hasb (by omega)
    cases hmm : mem b.names a.names[i]
    · rw [hmm] at pbs
      have hst : stA b r0.nd a.names[i] a.kids[i] = putK r0.nd a.names[i] Nd.zero := by unfold stA; rw [hmm]; rfl
      rw [hst] at hf hnext
      have hpn := putNameF_ACG r0 zeroLb a.names[i] hasc hrl (by omega)
      unfold labA at hpn
      rw [zeroLb_eq] at hpn
      have hcz := lab_clo zeroLb
      unfold labA at hcz
      rw [zeroLb_eq] at hcz
      (repeat (first | with_reducible refine AW.seq ?_ | ((first | refine arun_kn 4 rfl (fun C hC => ?_) | refine arunD_kn 4 rfl (fun C hC => ?_)); (repeat ((conv => whnf); simp [hlt, hk, strsE_len])); refine hC _ ?_; clear hC C; simp only [List.drop, Nat.reduceAdd]) | ((first | refine arun_kn 1 rfl (fun C hC => ?_) | refine arunD_kn 1 rfl (fun C hC => ?_)); (repeat ((conv => whnf); simp [hlt, hk, strsE_len])); refine hC _ ?_; clear hC C; simp only [List.drop, Nat.reduceAdd]) | (refine arun_skip ?_ ?_; (focus (simp [awant, hlt, hk, strsE_len]; done))) | (refine arun_c0 (pbs) ?_; rintro _ rfl) | (refine AW.regionK [] (fun K hK => ?_)) | (refine AW.regionDK [] (pcs [] []) (by kernel_rfl) (by kernel_rfl) (fun K hK => ?_)) | (refine AW.condT ?_ ?_; (focus (simp [aev, hlt, hk, strsE_len]; done))) | (refine AW.condF ?_ ?_; (focus (simp [aev, hlt, hk, strsE_len]; done))) | with_reducible refine AW.block ?_ | ((first | ((first | refine arun_nil ?_ | refine arunD_nil ?_); refine hK _ ?_; clear hK K) | refine AW.skip ?_ | refine AW.exit ?_ | refine AW.ret ?_); simp only [thenA_exit, inBlockA_exit, if_true, if_false, Nat.reduceEqDiff, thenA_normal, inBlockA_normal, reduceIte, thenA_ret, inBlockA_ret, endQ_ret, endR_ret, endG_ret, endQ_normal, endR_normal, endG_normal, endF_ret, endF_normal])))
      refine arun_callL5 5 100 101 102 103 (hac := hpn) (h1 := by simp [rowsOf_cons, upd, boxLb]) (h2 := by simp [rowsOf_cons, upd, namesR]) (h3 := by simp [rowsOf_cons, upd, labsR]) (hd := by decide) (hD := by decide) (uA := by simp [usedOf_cons, usedOf_nil, upd]) (uB := by simp [usedOf_cons, usedOf_nil, upd]) (hw := by simp [awant]) (ha := rfl) (hargs := .cons (.base (.ptr (by simp [rowsLb]) rfl)) (.cons (.base (.clo (Clo.cloTo clo_str))) (.cons (.base (.clo (Wk.cloTo zeroLb_wk hcz))) .nil))) (hcan := can_of (Nat.le_refl _)) (h := ?_)
      (repeat (first | with_reducible refine AW.seq ?_ | ((first | refine arun_kn 4 rfl (fun C hC => ?_) | refine arunD_kn 4 rfl (fun C hC => ?_)); (repeat ((conv => whnf); simp [hlt, hk, hwi, backLb, rowsLb, nuLb])); refine hC _ ?_; clear hC C; simp only [List.drop, Nat.reduceAdd]) | ((first | refine arun_kn 1 rfl (fun C hC => ?_) | refine arunD_kn 1 rfl (fun C hC => ?_)); (repeat ((conv => whnf); simp [hlt, hk, hwi, backLb, rowsLb, nuLb])); refine hC _ ?_; clear hC C; simp only [List.drop, Nat.reduceAdd]) | (refine arun_skip ?_ ?_; (focus (simp [awant, hlt, hk, hwi, backLb, rowsLb, nuLb]; done))) | (refine AW.regionK [] (fun K hK => ?_)) | (refine AW.regionDK [] (pcs [] []) (by kernel_rfl) (by kernel_rfl) (fun K hK => ?_)) | (refine AW.condT ?_ ?_; (focus (simp [aev, hlt, hk, hwi, backLb, rowsLb, nuLb]; done))) | (refine AW.condF ?_ ?_; (focus (simp [aev, hlt, hk, hwi, backLb, rowsLb, nuLb]; done))) | with_reducible refine AW.block ?_ | ((first | ((first | refine arun_nil ?_ | refine arunD_nil ?_); refine hK _ ?_; clear hK K) | refine AW.skip ?_ | refine AW.exit ?_ | refine AW.ret ?_); simp only [thenA_exit, inBlockA_exit, if_true, if_false, Nat.reduceEqDiff, thenA_normal, inBlockA_normal, reduceIte, thenA_ret, inBlockA_ret, endQ_ret, endR_ret, endG_ret, endQ_normal, endR_normal, endG_normal, endF_ret, endF_normal])))
      have hnd : (putLb r0 a.names[i] zeroLb).nd = putK r0.nd a.names[i] Nd.zero := by rw [putLb_nd, zeroLb_nd]
      rw [← hnd] at hnext hf
      have hfp1 := putLb_fp (v := zeroLb) a.names[i] hkn (by rw [zeroLb_fp]; exact List.nodup_nil) (by rw [zeroLb_fp]; exact fun b hb => by cases hb)
      have hfp2 : ∀ b ∈ (putLb r0 a.names[i] zeroLb).kids.flatMap Lb.fp, w0.wd.heap.size ≤ b := fun b hb => (putLb_fp_mem hb).elim (hkA b) (fun h => by rw [zeroLb_fp] at h; cases h)
      refine ⟨(i + 1, putLb r0 a.names[i] zeroLb), by dsimp only; omega, ⟨by dsimp only; omega, hnext, hf, hfp1, hfp2⟩, ?_⟩
      dsimp only
      generalize putLb r0 a.names[i] zeroLb = m at *
      have hin : ∀ U : Nat → Bool, ∀ e ∈ m.kids.map labL, ∀ c ∈ e, AV.In U c := fun U => labsE_in _
      refine Less.trans (s' := mkSt (slots 0 100 [(2, .ptr true 5 1 2 0 0), (3, .ptr true 5 1 3 0 0), (4, .ptr true 5 1 4 0 0), (5, .ptr true 5 1 5 0 0), (26, .view .loose 1 (strsE a.names)), (27, .int .i64 a.names.length), (28, .int .i64 ((i + 1 : Nat) : Int))]) [(2, ⟨true, 30, 5, [[.int .i64 a.kind, .int .i64 a.num, .str a.text, .view .loose 1 (strsE a.names), .view .loose 5 (a.kids.map nodeL)]]⟩), (3, ⟨true, 30, 5, [[.int .i64 b.kind, .int .i64 b.num, .str b.text, .view .loose 1 (strsE b.names), .view .loose 5 (b.kids.map nodeL)]]⟩), (4, ⟨true, 30, 5, [zeroN]⟩), (5, boxLb m 102 103), (102, namesR m.names), (103, labsR m.kids)] [2, 3, 4, 5, 102, 103] (rd0.map fun _ => 0)) (less_of (by simp [lessL, mkSt, slots, backLb, boxLb, namesR, labsR, zeroN, nodeN, namesRow, nodeO, kidsRow]) (by simp [upd, mkSt, rowsOf_cons, backLb, boxLb, namesR, labsR, zeroN, nodeN, namesRow, nodeO, kidsRow]) (by simp [upd, mkSt, usedOf_cons, backLb, boxLb, namesR, labsR, zeroN, nodeN, namesRow, nodeO, kidsRow]) (by first | exact rd_less (by omega) | simp [mkSt, backLb, boxLb, namesR, labsR, zeroN, nodeN, namesRow, nodeO, kidsRow]) (by simp [slots, in_any, in_int, in_bool, in_str, in_ptr, in_own, in_agg, in_vnil, in_rdr, usedOf_cons, usedOf_nil, strs_in, ints_in, nodes_in, in_tup, backLb, boxLb, namesR, labsR, zeroN, nodeN, namesRow, nodeO, kidsRow]) (by simp only [List.forall_mem_cons, List.not_mem_nil, false_implies, implies_true, and_true, true_and, backLb, boxLb, namesR, labsR, zeroN, nodeN, namesRow, nodeO, kidsRow]; (repeat (first | with_reducible exact trivial | with_reducible refine And.intro ?_ ?_ | with_reducible exact in_int | with_reducible exact in_str | with_reducible exact in_bool | with_reducible exact strs_in _ | with_reducible exact nodes_in _ | with_reducible exact items_in _ | with_reducible exact in_vnil | with_reducible exact in_any | exact hin _ | with_reducible refine take_in ?_ | with_reducible exact strsE_in _ | with_reducible exact nodesE_in _ | with_reducible exact nodeL_in _ | with_reducible exact itemsE_in _ | with_reducible exact itemL_in _ | with_reducible refine app_in ?_ ?_ | with_reducible refine sing_in ?_ | (focus (simp [in_any, in_int, in_bool, in_str, in_ptr, in_own, in_agg, in_vnil, in_rdr, usedOf_cons, usedOf_nil, strs_in, ints_in, nodes_in, backLb, boxLb, namesR, labsR, zeroN, nodeN, namesRow, nodeO, kidsRow]; done)))); done)) (Less.trans (Less.rename 102 100 (by simp [mkSt, usedOf_cons, usedOf_nil])) (Less.trans (Less.rename 103 101 (by simp [ASt.rename, mkSt, rowsOf_cons, usedOf_cons, usedOf_nil, upd])) ?_))
      simp only [ASt.rename, mkSt, rowsOf_cons, Nat.reduceEqDiff, if_true, if_false, reduceIte, upd, boxLb, namesR, labsR, zeroN]
      exact (less_of (by simp [lessL, mkSt, slots, AV.subL, AV.sub, Row.sub, rowsOf_nil, strsE_sub, labsE_sub, labL_sub, strsE_len, boxLb, namesR, labsR, zeroN, nodeN, namesRow, nodeO, kidsRow]) (by simp [upd, mkSt, rowsOf_cons, AV.subL, AV.sub, Row.sub, rowsOf_nil, strsE_sub, labsE_sub, labL_sub, strsE_len, boxLb, namesR, labsR, zeroN, nodeN, namesRow, nodeO, kidsRow]) (by simp [upd, mkSt, usedOf_cons, AV.subL, AV.sub, Row.sub, rowsOf_nil, strsE_sub, labsE_sub, labL_sub, strsE_len, boxLb, namesR, labsR, zeroN, nodeN, namesRow, nodeO, kidsRow]) (by first | exact rd_less (by omega) | simp [mkSt, AV.subL, AV.sub, Row.sub, rowsOf_nil, strsE_sub, labsE_sub, labL_sub, strsE_len, boxLb, namesR, labsR, zeroN, nodeN, namesRow, nodeO, kidsRow]) (by simp [slots, in_any, in_int, in_bool, in_str, in_ptr, in_own, in_agg, in_vnil, in_rdr, usedOf_cons, usedOf_nil, strs_in, ints_in, nodes_in, in_tup, AV.subL, AV.sub, Row.sub, rowsOf_nil, strsE_sub, labsE_sub, labL_sub, strsE_len, boxLb, namesR, labsR, zeroN, nodeN, namesRow, nodeO, kidsRow]) (by simp only [List.forall_mem_cons, List.not_mem_nil, false_implies, implies_true, and_true, true_and, AV.subL, AV.sub, Row.sub, rowsOf_nil, strsE_sub, labsE_sub, labL_sub, strsE_len, boxLb, namesR, labsR, zeroN, nodeN, namesRow, nodeO, kidsRow]; (repeat (first | with_reducible exact trivial | with_reducible refine And.intro ?_ ?_ | with_reducible exact in_int | with_reducible exact in_str | with_reducible exact in_bool | with_reducible exact strs_in _ | with_reducible exact nodes_in _ | with_reducible exact items_in _ | with_reducible exact in_vnil | with_reducible exact in_any | exact hin _ | with_reducible refine take_in ?_ | with_reducible exact strsE_in _ | with_reducible exact nodesE_in _ | with_reducible exact nodeL_in _ | with_reducible exact itemsE_in _ | with_reducible exact itemL_in _ | with_reducible refine app_in ?_ ?_ | with_reducible refine sing_in ?_ | (focus (simp [in_any, in_int, in_bool, in_str, in_ptr, in_own, in_agg, in_vnil, in_rdr, usedOf_cons, usedOf_nil, strs_in, ints_in, nodes_in, AV.subL, AV.sub, Row.sub, rowsOf_nil, strsE_sub, labsE_sub, labL_sub, strsE_len, boxLb, namesR, labsR, zeroN, nodeN, namesRow, nodeO, kidsRow]; done)))); done))
    · rw [hmm] at pbs
      have hjl := lbn_lt hasb hmm
      have hjk : lbound b.names a.names[i] < b.kids.length := by omega
      have hko := kidOf_yes hmm hjk
      have hks := kid_shp hb h4b hmm
      have hsk := ha.kid (List.getElem_mem hk)
      have psm := sameNode_AC a.kids[i] (kidOf b a.names[i]) (Shp.goodS hsk) (Shp.goodS hks)
      have hmg := (ih _ (List.getElem_mem hk) _ hks).mono (fun r h => rLab_X h)
      have hsy := pb_sml _ hsk _ hks
      cases hc0 : cmpN a.kids[i] (kidOf b a.names[i]) == 0
      · rw [hc0] at psm
        have hst : stA b r0.nd a.names[i] a.kids[i] = putK r0.nd a.names[i] (pb a.kids[i] (kidOf b a.names[i])) := by unfold stA; rw [hmm, if_pos rfl, if_neg (by simpa using hc0)]
        rw [hst] at hf hnext
        generalize pb a.kids[i] (kidOf b a.names[i]) = y at *
        rw [hko] at psm hmg
        have hcl1 := node_clo a.kids[i]
        have hcl2 := node_clo b.kids[lbound b.names a.names[i]]
        unfold nodeA at psm hmg hcl1 hcl2
        rw [nodeL_eq a.kids[i], nodeL_eq b.kids[lbound b.names a.names[i]]] at psm hmg
        rw [nodeL_eq] at hcl1 hcl2
        refine AW.noteR 101 (r := labsR r0.kids) (by simp [mkSt, rowsOf_cons]) ?_
        refine AW.bound (fun N hNb => ?_)
        (repeat (first | with_reducible refine AW.seq ?_ | ((first | refine arun_kn 4 rfl (fun C hC => ?_) | refine arunD_kn 4 rfl (fun C hC => ?_)); (repeat ((conv => whnf); simp [hlt, hk, strsE_len, hjl, hjk])); refine hC _ ?_; clear hC C; simp only [List.drop, Nat.reduceAdd]) | ((first | refine arun_kn 1 rfl (fun C hC => ?_) | refine arunD_kn 1 rfl (fun C hC => ?_)); (repeat ((conv => whnf); simp [hlt, hk, strsE_len, hjl, hjk])); refine hC _ ?_; clear hC C; simp only [List.drop, Nat.reduceAdd]) | (refine arun_skip ?_ ?_; (focus (simp [awant, hlt, hk, strsE_len, hjl, hjk]; done))) | (refine arun_c0 (pbs) ?_; rintro _ rfl) | (refine arun_c0 (psm) ?_; rintro _ rfl) | (refine arunD_c (0) (pbs) ?_; rintro _ rfl; intro _) | (refine arunD_c (0) (psm) ?_; rintro _ rfl; intro _) | (refine AW.regionK [] (fun K hK => ?_)) | (refine AW.condT ?_ ?_; (focus (simp [aev, hlt, hk, strsE_len, hjl, hjk]; done))) | (refine AW.condF ?_ ?_; (focus (simp [aev, hlt, hk, strsE_len, hjl, hjk]; done))) | with_reducible refine AW.block ?_ | ((first | ((first | refine arun_nil ?_ | refine arunD_nil ?_); refine hK _ ?_; clear hK K) | refine AW.skip ?_ | refine AW.exit ?_ | refine AW.ret ?_); simp only [thenA_exit, inBlockA_exit, if_true, if_false, Nat.reduceEqDiff, thenA_normal, inBlockA_normal, reduceIte, thenA_ret, inBlockA_ret, endQ_ret, endR_ret, endG_ret, endQ_normal, endR_normal, endG_normal, endF_ret, endF_normal])))
        refine AW.regionDK [] (pcs [(10, 0, fun r => r = .bool false)] []) (by kernel_rfl) (by kernel_rfl) (fun K hK => ?_)
        (repeat (first | with_reducible refine AW.seq ?_ | ((first | refine arun_kn 4 rfl (fun C hC => ?_) | refine arunD_kn 4 rfl (fun C hC => ?_)); (repeat ((conv => whnf); simp [hlt, hk, strsE_len, hjl, hjk])); refine hC _ ?_; clear hC C; simp only [List.drop, Nat.reduceAdd]) | ((first | refine arun_kn 1 rfl (fun C hC => ?_) | refine arunD_kn 1 rfl (fun C hC => ?_)); (repeat ((conv => whnf); simp [hlt, hk, strsE_len, hjl, hjk])); refine hC _ ?_; clear hC C; simp only [List.drop, Nat.reduceAdd]) | (refine arun_skip ?_ ?_; (focus (simp [awant, hlt, hk, strsE_len, hjl, hjk]; done))) | (refine arun_c0 (psm) ?_; rintro _ rfl) | (refine arunD_c (0) (psm) ?_; rintro _ rfl; intro _) | (refine AW.regionK [] (fun K hK => ?_)) | (refine AW.condT ?_ ?_; (focus (simp [aev, hlt, hk, strsE_len, hjl, hjk]; done))) | (refine AW.condF ?_ ?_; (focus (simp [aev, hlt, hk, strsE_len, hjl, hjk]; done))) | with_reducible refine AW.block ?_ | ((first | ((first | refine arun_nil ?_ | refine arunD_nil ?_); refine hK _ ?_; clear hK K) | refine AW.skip ?_ | refine AW.exit ?_ | refine AW.ret ?_); simp only [thenA_exit, inBlockA_exit, if_true, if_false, Nat.reduceEqDiff, thenA_normal, inBlockA_normal, reduceIte, thenA_ret, inBlockA_ret, endQ_ret, endR_ret, endG_ret, endQ_normal, endR_normal, endG_normal, endF_ret, endF_normal])))
        refine AW.regionDK [] (pcs [(11, 0, fun r => rLabX y r ∧ ∀ b ∈ atB r, ¬ (w0.note (atE (labsR r0.kids).es)).A b)] [1012]) (by kernel_rfl) (by kernel_rfl) (fun K hK => ?_)
        (repeat (first | with_reducible refine AW.seq ?_ | ((first | refine arun_kn 4 rfl (fun C hC => ?_) | refine arunD_kn 4 rfl (fun C hC => ?_)); (repeat ((conv => whnf); simp [hlt, hk, strsE_len, hjl, hjk])); refine hC _ ?_; clear hC C; simp only [List.drop, Nat.reduceAdd]) | ((first | refine arun_kn 1 rfl (fun C hC => ?_) | refine arunD_kn 1 rfl (fun C hC => ?_)); (repeat ((conv => whnf); simp [hlt, hk, strsE_len, hjl, hjk])); refine hC _ ?_; clear hC C; simp only [List.drop, Nat.reduceAdd]) | (refine arun_skip ?_ ?_; (focus (simp [awant, hlt, hk, strsE_len, hjl, hjk]; done))) | (refine arun_cF (0) (hmg) ?_; (rintro _ ⟨l, hl, hlp, rfl⟩ hA)) | (refine arunD_cF (0) (hmg) (by exact rLabX_ex _ hNb) ?_; (rintro _ ⟨l, hl, hlp, rfl⟩ hA); intro _) | (refine AW.regionK [] (fun K hK => ?_)) | (refine AW.regionDK [] (pcs [] []) (by kernel_rfl) (by kernel_rfl) (fun K hK => ?_)) | (refine AW.condT ?_ ?_; (focus (simp [aev, hlt, hk, strsE_len, hjl, hjk]; done))) | (refine AW.condF ?_ ?_; (focus (simp [aev, hlt, hk, strsE_len, hjl, hjk]; done))) | with_reducible refine AW.block ?_ | ((first | ((first | refine arun_nil ?_ | refine arunD_nil ?_); refine hK _ ?_; clear hK K) | refine AW.skip ?_ | refine AW.exit ?_ | refine AW.ret ?_); simp only [thenA_exit, inBlockA_exit, if_true, if_false, Nat.reduceEqDiff, thenA_normal, inBlockA_normal, reduceIte, thenA_ret, inBlockA_ret, endQ_ret, endR_ret, endG_ret, endQ_normal, endR_normal, endG_normal, endF_ret, endF_normal])))
        have hpn := putNameF_ACG r0 l a.names[i] hasc hrl (by omega)
        unfold labA at hpn
        rw [labL_eq l] at hpn
        have hcy := lab_clo l
        unfold labA at hcy
        rw [labL_eq l] at hcy
        have hA1 : ∀ b ∈ l.fp, ¬ w0.A b := fun b hb h => hA b (by rw [at_agg, ← labL_eq]; exact hb) (.inl h)
        have hA2 : ∀ b ∈ l.fp, ¬ b ∈ r0.kids.flatMap Lb.fp := fun b hb h => hA b (by rw [at_agg, ← labL_eq]; exact hb) (.inr (by rw [show (labsR r0.kids).es = r0.kids.map labL from rfl, atE_labs]; exact h))
        refine arunD_callL5 5 100 101 102 103 (hac := hpn) (h1 := by simp [rowsOf_cons, upd, boxLb]) (h2 := by simp [rowsOf_cons, upd, namesR]) (h3 := by simp [rowsOf_cons, upd, labsR]) (hd := by decide) (hD := by decide) (uA := by simp [usedOf_cons, usedOf_nil, upd]) (uB := by simp [usedOf_cons, usedOf_nil, upd]) (hl := rfl) (hw := by simp [awant]) (ha := rfl) (hargs := .cons (.base (.ptr (by simp [rowsLb]) rfl)) (.cons (.base (.clo (Clo.cloTo clo_str))) (.cons (.base (.clo (Clo.cloTo hcy))) .nil))) (hcan := by (simp only [ASt.put, ASt.pay, Option.map_map, Function.comp_def]; exact can_of (Nat.zero_le _))) (h := ?_)
        (repeat (first | with_reducible refine AW.seq ?_ | ((first | refine arun_kn 4 rfl (fun C hC => ?_) | refine arunD_kn 4 rfl (fun C hC => ?_)); (repeat ((conv => whnf); simp [hlt, hk, hwi, backLb, rowsLb, nuLb])); refine hC _ ?_; clear hC C; simp only [List.drop, Nat.reduceAdd]) | ((first | refine arun_kn 1 rfl (fun C hC => ?_) | refine arunD_kn 1 rfl (fun C hC => ?_)); (repeat ((conv => whnf); simp [hlt, hk, hwi, backLb, rowsLb, nuLb])); refine hC _ ?_; clear hC C; simp only [List.drop, Nat.reduceAdd]) | (refine arun_skip ?_ ?_; (focus (simp [awant, hlt, hk, hwi, backLb, rowsLb, nuLb]; done))) | (refine AW.regionK [] (fun K hK => ?_)) | (refine AW.regionDK [] (pcs [] []) (by kernel_rfl) (by kernel_rfl) (fun K hK => ?_)) | (refine AW.condT ?_ ?_; (focus (simp [aev, hlt, hk, hwi, backLb, rowsLb, nuLb]; done))) | (refine AW.condF ?_ ?_; (focus (simp [aev, hlt, hk, hwi, backLb, rowsLb, nuLb]; done))) | with_reducible refine AW.block ?_ | ((first | ((first | refine arun_nil ?_ | refine arunD_nil ?_); refine hK _ ?_; clear hK K) | refine AW.skip ?_ | refine AW.exit ?_ | refine AW.ret ?_); simp only [thenA_exit, inBlockA_exit, if_true, if_false, Nat.reduceEqDiff, thenA_normal, inBlockA_normal, reduceIte, thenA_ret, inBlockA_ret, endQ_ret, endR_ret, endG_ret, endQ_normal, endR_normal, endG_normal, endF_ret, endF_normal])))
        have hnd : (putLb r0 a.names[i] l).nd = putK r0.nd a.names[i] y := by rw [putLb_nd, hl]
        rw [← hnd] at hnext hf
        have hfp1 := putLb_fp a.names[i] hkn hlp hA2
        have hfp2 : ∀ b ∈ (putLb r0 a.names[i] l).kids.flatMap Lb.fp, w0.wd.heap.size ≤ b := fun b hb => (putLb_fp_mem hb).elim (hkA b) (fun h => hN.ge (hA1 b h))
        refine ⟨(i + 1, putLb r0 a.names[i] l), by dsimp only; omega, ⟨by dsimp only; omega, hnext, hf, hfp1, hfp2⟩, ?_⟩
        dsimp only
        generalize putLb r0 a.names[i] l = m at *
        have hin : ∀ U : Nat → Bool, ∀ e ∈ m.kids.map labL, ∀ c ∈ e, AV.In U c := fun U => labsE_in _
        refine Less.trans (s' := mkSt (slots 0 100 [(2, .ptr true 5 1 2 0 0), (3, .ptr true 5 1 3 0 0), (4, .ptr true 5 1 4 0 0), (5, .ptr true 5 1 5 0 0), (26, .view .loose 1 (strsE a.names)), (27, .int .i64 a.names.length), (28, .int .i64 ((i + 1 : Nat) : Int))]) [(2, ⟨true, 30, 5, [[.int .i64 a.kind, .int .i64 a.num, .str a.text, .view .loose 1 (strsE a.names), .view .loose 5 (a.kids.map nodeL)]]⟩), (3, ⟨true, 30, 5, [[.int .i64 b.kind, .int .i64 b.num, .str b.text, .view .loose 1 (strsE b.names), .view .loose 5 (b.kids.map nodeL)]]⟩), (4, ⟨true, 30, 5, [zeroN]⟩), (5, boxLb m 102 103), (102, namesR m.names), (103, labsR m.kids)] [2, 3, 4, 5, 102, 103] (rd0.map fun _ => 0)) (less_of (by simp [lessL, mkSt, slots, backLb, boxLb, namesR, labsR, zeroN, nodeN, namesRow, nodeO, kidsRow]) (by simp [upd, mkSt, rowsOf_cons, backLb, boxLb, namesR, labsR, zeroN, nodeN, namesRow, nodeO, kidsRow]) (by simp [upd, mkSt, usedOf_cons, backLb, boxLb, namesR, labsR, zeroN, nodeN, namesRow, nodeO, kidsRow]) (by first | exact rd_less (by omega) | simp [mkSt, backLb, boxLb, namesR, labsR, zeroN, nodeN, namesRow, nodeO, kidsRow]) (by simp [slots, in_any, in_int, in_bool, in_str, in_ptr, in_own, in_agg, in_vnil, in_rdr, usedOf_cons, usedOf_nil, strs_in, ints_in, nodes_in, in_tup, backLb, boxLb, namesR, labsR, zeroN, nodeN, namesRow, nodeO, kidsRow]) (by simp only [List.forall_mem_cons, List.not_mem_nil, false_implies, implies_true, and_true, true_and, backLb, boxLb, namesR, labsR, zeroN, nodeN, namesRow, nodeO, kidsRow]; (repeat (first | with_reducible exact trivial | with_reducible refine And.intro ?_ ?_ | with_reducible exact in_int | with_reducible exact in_str | with_reducible exact in_bool | with_reducible exact strs_in _ | with_reducible exact nodes_in _ | with_reducible exact items_in _ | with_reducible exact in_vnil | with_reducible exact in_any | exact hin _ | with_reducible refine take_in ?_ | with_reducible exact strsE_in _ | with_reducible exact nodesE_in _ | with_reducible exact nodeL_in _ | with_reducible exact itemsE_in _ | with_reducible exact itemL_in _ | with_reducible refine app_in ?_ ?_ | with_reducible refine sing_in ?_ | (focus (simp [in_any, in_int, in_bool, in_str, in_ptr, in_own, in_agg, in_vnil, in_rdr, usedOf_cons, usedOf_nil, strs_in, ints_in, nodes_in, backLb, boxLb, namesR, labsR, zeroN, nodeN, namesRow, nodeO, kidsRow]; done)))); done)) (Less.trans (Less.rename 102 100 (by simp [mkSt, usedOf_cons, usedOf_nil])) (Less.trans (Less.rename 103 101 (by simp [ASt.rename, mkSt, rowsOf_cons, usedOf_cons, usedOf_nil, upd])) ?_))
        simp only [ASt.rename, mkSt, rowsOf_cons, Nat.reduceEqDiff, if_true, if_false, reduceIte, upd, boxLb, namesR, labsR, zeroN]
        exact (less_of (by simp [lessL, mkSt, slots, AV.subL, AV.sub, Row.sub, rowsOf_nil, strsE_sub, labsE_sub, labL_sub, strsE_len, boxLb, namesR, labsR, zeroN, nodeN, namesRow, nodeO, kidsRow]) (by simp [upd, mkSt, rowsOf_cons, AV.subL, AV.sub, Row.sub, rowsOf_nil, strsE_sub, labsE_sub, labL_sub, strsE_len, boxLb, namesR, labsR, zeroN, nodeN, namesRow, nodeO, kidsRow]) (by simp [upd, mkSt, usedOf_cons, AV.subL, AV.sub, Row.sub, rowsOf_nil, strsE_sub, labsE_sub, labL_sub, strsE_len, boxLb, namesR, labsR, zeroN, nodeN, namesRow, nodeO, kidsRow]) (by first | exact rd_less (by omega) | simp [mkSt, AV.subL, AV.sub, Row.sub, rowsOf_nil, strsE_sub, labsE_sub, labL_sub, strsE_len, boxLb, namesR, labsR, zeroN, nodeN, namesRow, nodeO, kidsRow]) (by simp [slots, in_any, in_int, in_bool, in_str, in_ptr, in_own, in_agg, in_vnil, in_rdr, usedOf_cons, usedOf_nil, strs_in, ints_in, nodes_in, in_tup, AV.subL, AV.sub, Row.sub, rowsOf_nil, strsE_sub, labsE_sub, labL_sub, strsE_len, boxLb, namesR, labsR, zeroN, nodeN, namesRow, nodeO, kidsRow]) (by simp only [List.forall_mem_cons, List.not_mem_nil, false_implies, implies_true, and_true, true_and, AV.subL, AV.sub, Row.sub, rowsOf_nil, strsE_sub, labsE_sub, labL_sub, strsE_len, boxLb, namesR, labsR, zeroN, nodeN, namesRow, nodeO, kidsRow]; (repeat (first | with_reducible exact trivial | with_reducible refine And.intro ?_ ?_ | with_reducible exact in_int | with_reducible exact in_str | with_reducible exact in_bool | with_reducible exact strs_in _ | with_reducible exact nodes_in _ | with_reducible exact items_in _ | with_reducible exact in_vnil | with_reducible exact in_any | exact hin _ | with_reducible refine take_in ?_ | with_reducible exact strsE_in _ | with_reducible exact nodesE_in _ | with_reducible exact nodeL_in _ | with_reducible exact itemsE_in _ | with_reducible exact itemL_in _ | with_reducible refine app_in ?_ ?_ | with_reducible refine sing_in ?_ | (focus (simp [in_any, in_int, in_bool, in_str, in_ptr, in_own, in_agg, in_vnil, in_rdr, usedOf_cons, usedOf_nil, strs_in, ints_in, nodes_in, AV.subL, AV.sub, Row.sub, rowsOf_nil, strsE_sub, labsE_sub, labL_sub, strsE_len, boxLb, namesR, labsR, zeroN, nodeN, namesRow, nodeO, kidsRow]; done)))); done))
      · rw [hc0] at psm
        have hst : stA b r0.nd a.names[i] a.kids[i] = r0.nd := by unfold stA; rw [hmm, if_pos rfl, if_pos (by simpa using hc0)]
        rw [hst] at hf hnext
        rw [hko] at psm
        have hcl1 := node_clo a.kids[i]
        have hcl2 := node_clo b.kids[lbound b.names a.names[i]]
        unfold nodeA at psm hcl1 hcl2
        rw [nodeL_eq a.kids[i], nodeL_eq b.kids[lbound b.names a.names[i]]] at psm
        rw [nodeL_eq] at hcl1 hcl2
        (repeat (first | with_reducible refine AW.seq ?_ | ((first | refine arun_kn 4 rfl (fun C hC => ?_) | refine arunD_kn 4 rfl (fun C hC => ?_)); (repeat ((conv => whnf); simp [hlt, hk, strsE_len, hjl, hjk, hwi])); refine hC _ ?_; clear hC C; simp only [List.drop, Nat.reduceAdd]) | ((first | refine arun_kn 1 rfl (fun C hC => ?_) | refine arunD_kn 1 rfl (fun C hC => ?_)); (repeat ((conv => whnf); simp [hlt, hk, strsE_len, hjl, hjk, hwi])); refine hC _ ?_; clear hC C; simp only [List.drop, Nat.reduceAdd]) | (refine arun_skip ?_ ?_; (focus (simp [awant, hlt, hk, strsE_len, hjl, hjk, hwi]; done))) | (refine arun_c0 (pbs) ?_; rintro _ rfl) | (refine arun_c0 (psm) ?_; rintro _ rfl) | (refine arunD_c (0) (pbs) ?_; rintro _ rfl; intro _) | (refine arunD_c (0) (psm) ?_; rintro _ rfl; intro _) | (refine AW.regionK [] (fun K hK => ?_)) | (refine AW.regionDK [] (pcs [(10, 0, fun r => r = .bool true)] []) (by kernel_rfl) (by kernel_rfl) (fun K hK => ?_)) | (refine AW.condT ?_ ?_; (focus (simp [aev, hlt, hk, strsE_len, hjl, hjk, hwi]; done))) | (refine AW.condF ?_ ?_; (focus (simp [aev, hlt, hk, strsE_len, hjl, hjk, hwi]; done))) | with_reducible refine AW.block ?_ | ((first | ((first | refine arun_nil ?_ | refine arunD_nil ?_); refine hK _ ?_; clear hK K) | refine AW.skip ?_ | refine AW.exit ?_ | refine AW.ret ?_); simp only [thenA_exit, inBlockA_exit, if_true, if_false, Nat.reduceEqDiff, thenA_normal, inBlockA_normal, reduceIte, thenA_ret, inBlockA_ret, endQ_ret, endR_ret, endG_ret, endQ_normal, endR_normal, endG_normal, endF_ret, endF_normal])))
        refine ⟨(i + 1, r0), by dsimp only; omega, ⟨by dsimp only; omega, hnext, hf, hkn, hkA⟩, ?_⟩
        dsimp only
        have hin : ∀ U : Nat → Bool, ∀ e ∈ r0.kids.map labL, ∀ c ∈ e, AV.In U c := fun U => labsE_in _
        exact (less_of (by simp [lessL, mkSt, slots, boxLb, namesR, labsR, zeroN, nodeN, namesRow, nodeO, kidsRow]) (by simp [upd, mkSt, rowsOf_cons, boxLb, namesR, labsR, zeroN, nodeN, namesRow, nodeO, kidsRow]) (by simp [upd, mkSt, usedOf_cons, boxLb, namesR, labsR, zeroN, nodeN, namesRow, nodeO, kidsRow]) (by first | exact rd_less (by omega) | simp [mkSt, boxLb, namesR, labsR, zeroN, nodeN, namesRow, nodeO, kidsRow]) (by simp [slots, in_any, in_int, in_bool, in_str, in_ptr, in_own, in_agg, in_vnil, in_rdr, usedOf_cons, usedOf_nil, strs_in, ints_in, nodes_in, in_tup, boxLb, namesR, labsR, zeroN, nodeN, namesRow, nodeO, kidsRow]) (by simp only [List.forall_mem_cons, List.not_mem_nil, false_implies, implies_true, and_true, true_and, boxLb, namesR, labsR, zeroN, nodeN, namesRow, nodeO, kidsRow]; (repeat (first | with_reducible exact trivial | with_reducible refine And.intro ?_ ?_ | with_reducible exact in_int | with_reducible exact in_str | with_reducible exact in_bool | with_reducible exact strs_in _ | with_reducible exact nodes_in _ | with_reducible exact items_in _ | with_reducible exact in_vnil | with_reducible exact in_any | exact hin _ | with_reducible refine take_in ?_ | with_reducible exact strsE_in _ | with_reducible exact nodesE_in _ | with_reducible exact nodeL_in _ | with_reducible exact itemsE_in _ | with_reducible exact itemL_in _ | with_reducible refine app_in ?_ ?_ | with_reducible refine sing_in ?_ | (focus (simp [in_any, in_int, in_bool, in_str, in_ptr, in_own, in_agg, in_vnil, in_rdr, usedOf_cons, usedOf_nil, strs_in, ints_in, nodes_in, boxLb, namesR, labsR, zeroN, nodeN, namesRow, nodeO, kidsRow]; done)))); done))
  obtain rfl : i = a.names.length := by omega
  rw [pbL_end (by omega)] at hf
  rw [hf.symm] at hM1
  clear hm
  (repeat (first | with_reducible refine AW.seq ?_ | ((first | refine arun_kn 4 rfl (fun C hC => ?_) | refine arunD_kn 4 rfl (fun C hC => ?_)); (repeat ((conv => whnf); simp [hlt, strsE_len])); refine hC _ ?_; clear hC C; simp only [List.drop, Nat.reduceAdd]) | ((first | refine arun_kn 1 rfl (fun C hC => ?_) | refine arunD_kn 1 rfl (fun C hC => ?_)); (repeat ((conv => whnf); simp [hlt, strsE_len])); refine hC _ ?_; clear hC C; simp only [List.drop, Nat.reduceAdd]) | (refine arun_skip ?_ ?_; (focus (simp [awant, hlt, strsE_len]; done))) | (refine AW.regionK [] (fun K hK => ?_)) | (refine AW.regionDK [] (pcs [] []) (by kernel_rfl) (by kernel_rfl) (fun K hK => ?_)) | (refine AW.condT ?_ ?_; (focus (simp [aev, hlt, strsE_len]; done))) | (refine AW.condF ?_ ?_; (focus (simp [aev, hlt, strsE_len]; done))) | with_reducible refine AW.block ?_ | ((first | ((first | refine arun_nil ?_ | refine arunD_nil ?_); refine hK _ ?_; clear hK K) | refine AW.skip ?_ | refine AW.exit ?_ | refine AW.ret ?_); simp only [thenA_exit, inBlockA_exit, if_true, if_false, Nat.reduceEqDiff, thenA_normal, inBlockA_normal, reduceIte, thenA_ret, inBlockA_ret, endQ_ret, endR_ret, endG_ret, endQ_normal, endR_normal, endG_normal, endF_ret, endF_normal])))
  refine AW.loopS (fun (x : Nat × Lb) => mkSt (slots 0 100 [(2, .ptr true 5 1 2 0 0), (3, .ptr true 5 1 3 0 0), (4, .ptr true 5 1 4 0 0), (5, .ptr true 5 1 5 0 0), (74, .view .loose 1 (strsE b.names)), (75, .int .i64 b.names.length), (76, .int .i64 x.1)]) [(2, ⟨true, 30, 5, [nodeL a]⟩), (3, ⟨true, 30, 5, [nodeL b]⟩), (4, ⟨true, 30, 5, [zeroN]⟩), (5, boxLb x.2 100 101), (100, namesR x.2.names), (101, labsR x.2.kids)] [2, 3, 4, 5, 100, 101] (rd0.map fun _ => 0)) (fun x => b.names.length - x.1) (fun x => x.1 ≤ b.names.length ∧ MidB a b x.1 x.2.nd ∧ pbB a.names (b.names.drop x.1) (b.kids.drop x.1) x.2.nd = pbB a.names b.names b.kids R1 ∧ (x.2.kids.flatMap Lb.fp).Nodup ∧ ∀ b ∈ x.2.kids.flatMap Lb.fp, w0.wd.heap.size ≤ b) (0, r0) ?_ ⟨Nat.zero_le _, hM1, by dsimp only; rw [hf]; rfl, hkn, hkA⟩ ?_
  · dsimp only
    rw [nodeL_eq a, nodeL_eq b]
    have hin : ∀ U : Nat → Bool, ∀ e ∈ r0.kids.map labL, ∀ c ∈ e, AV.In U c := fun U => labsE_in _
    exact (less_of (by simp [lessL, mkSt, slots, boxLb, namesR, labsR, zeroN, nodeN, namesRow, nodeO, kidsRow]) (by simp [upd, mkSt, rowsOf_cons, boxLb, namesR, labsR, zeroN, nodeN, namesRow, nodeO, kidsRow]) (by simp [upd, mkSt, usedOf_cons, boxLb, namesR, labsR, zeroN, nodeN, namesRow, nodeO, kidsRow]) (by first | exact rd_less (by omega) | simp [mkSt, boxLb, namesR, labsR, zeroN, nodeN, namesRow, nodeO, kidsRow]) (by simp [slots, in_any, in_int, in_bool, in_str, in_ptr, in_own, in_agg, in_vnil, in_rdr, usedOf_cons, usedOf_nil, strs_in, ints_in, nodes_in, in_tup, boxLb, namesR, labsR, zeroN, nodeN, namesRow, nodeO, kidsRow]) (by simp only [List.forall_mem_cons, List.not_mem_nil, false_implies, implies_true, and_true, true_and, boxLb, namesR, labsR, zeroN, nodeN, namesRow, nodeO, kidsRow]; (repeat (first | with_reducible exact trivial | with_reducible refine And.intro ?_ ?_ | with_reducible exact in_int | with_reducible exact in_str | with_reducible exact in_bool | with_reducible exact strs_in _ | with_reducible exact nodes_in _ | with_reducible exact items_in _ | with_reducible exact in_vnil | with_reducible exact in_any | exact hin _ | with_reducible refine take_in ?_ | with_reducible exact strsE_in _ | with_reducible exact nodesE_in _ | with_reducible exact nodeL_in _ | with_reducible exact itemsE_in _ | with_reducible exact itemL_in _ | with_reducible refine app_in ?_ ?_ | with_reducible refine sing_in ?_ | (focus (simp [in_any, in_int, in_bool, in_str, in_ptr, in_own, in_agg, in_vnil, in_rdr, usedOf_cons, usedOf_nil, strs_in, ints_in, nodes_in, boxLb, namesR, labsR, zeroN, nodeN, namesRow, nodeO, kidsRow]; done)))); done))
  clear hM1 hf hkn hkA r0
  rintro ⟨i, r0⟩ ⟨hi, hm, hf, hkn, hkA⟩
  dsimp only at hi hm hf hkn hkA ⊢
  rw [nodeL_eq a, nodeL_eq b]
  have hrk := ndKlen r0
  have hrn := ndNames r0
  by_cases hlt : i < b.names.length
  · have hk : i < b.kids.length := by omega
    have hwi : IntKind.i64.wrap ((i : Int) + 1) = ((i + 1 : Nat) : Int) := by rw [i64_nat (by omega) (by omega)]; simp
    have hnext := hm.next hb hlt hk
    rw [pbB_step hlt hk] at hf
    have hwd := hm.wide
    have hasc : Asc r0.names := by rw [← hrn]; exact hm.w.asc
    have hrl : r0.names.length = r0.kids.length := by rw [← hrn, ← hrk]; exact hm.w.len
    have pbs := bsearch_AC a.names b.names[i] .loose hasa (by omega)
    cases hmm : mem a.names b.names[i]
    · rw [hmm] at pbs
      have hst : stB a.names r0.nd b.names[i] b.kids[i] = putK r0.nd b.names[i] b.kids[i] := by unfold stB; rw [hmm]; rfl
      rw [hst] at hf hnext
      have hcp := implCopyF_ACF b.kids[i] (hb.kid (List.getElem_mem hk)).sml
      have hcl1 := node_clo b.kids[i]
      unfold nodeA at hcp hcl1
      rw [nodeL_eq b.kids[i]] at hcp hcl1
      refine AW.noteR 101 (r := labsR r0.kids) (by simp [mkSt, rowsOf_cons]) ?_
      (repeat (first | with_reducible refine AW.seq ?_ | ((first | refine arun_kn 4 rfl (fun C hC => ?_) | refine arunD_kn 4 rfl (fun C hC => ?_)); (repeat ((conv => whnf); simp [hlt, hk, strsE_len])); refine hC _ ?_; clear hC C; simp only [List.drop, Nat.reduceAdd]) | ((first | refine arun_kn 1 rfl (fun C hC => ?_) | refine arunD_kn 1 rfl (fun C hC => ?_)); (repeat ((conv => whnf); simp [hlt, hk, strsE_len])); refine hC _ ?_; clear hC C; simp only [List.drop, Nat.reduceAdd]) | (refine arun_skip ?_ ?_; (focus (simp [awant, hlt, hk, strsE_len]; done))) | (refine arun_c0 (pbs) ?_; rintro _ rfl) | (refine arun_cF (0) (hcp) ?_; (rintro _ ⟨l, hl, hlp, rfl⟩ hA)) | (refine arunD_cF (0) (hcp) (by refine ⟨_, rfl, ?_⟩; first | exact node_in _ | exact storeA_in _ | exact item_in _ | exact in_int | exact in_bool | exact in_str | (simp [NoId, in_tup, in_agg, in_int, in_bool, in_str, node_in, nodes_in, strs_in]; done)) ?_; (rintro _ ⟨l, hl, hlp, rfl⟩ hA); intro _) | (refine AW.regionK [] (fun K hK => ?_)) | (refine AW.regionDK [] (pcs [] []) (by kernel_rfl) (by kernel_rfl) (fun K hK => ?_)) | (refine AW.condT ?_ ?_; (focus (simp [aev, hlt, hk, strsE_len]; done))) | (refine AW.condF ?_ ?_; (focus (simp [aev, hlt, hk, strsE_len]; done))) | with_reducible refine AW.block ?_ | ((first | ((first | refine arun_nil ?_ | refine arunD_nil ?_); refine hK _ ?_; clear hK K) | refine AW.skip ?_ | refine AW.exit ?_ | refine AW.ret ?_); simp only [thenA_exit, inBlockA_exit, if_true, if_false, Nat.reduceEqDiff, thenA_normal, inBlockA_normal, reduceIte, thenA_ret, inBlockA_ret, endQ_ret, endR_ret, endG_ret, endQ_normal, endR_normal, endG_normal, endF_ret, endF_normal])))
      have hpn := putNameF_ACG r0 l b.names[i] hasc hrl (by omega)
      unfold labA at hpn
      rw [labL_eq l] at hpn
      have hcy := lab_clo l
      unfold labA at hcy
      rw [labL_eq l] at hcy
      have hA1 : ∀ b ∈ l.fp, ¬ w0.A b := fun b hb h => hA b (by rw [at_agg, ← labL_eq]; exact hb) (.inl h)
      have hA2 : ∀ b ∈ l.fp, ¬ b ∈ r0.kids.flatMap Lb.fp := fun b hb h => hA b (by rw [at_agg, ← labL_eq]; exact hb) (.inr (by rw [show (labsR r0.kids).es = r0.kids.map labL from rfl, atE_labs]; exact h))
      refine arun_callL5 5 100 101 102 103 (hac := hpn) (h1 := by simp [rowsOf_cons, upd, boxLb]) (h2 := by simp [rowsOf_cons, upd, namesR]) (h3 := by simp [rowsOf_cons, upd, labsR]) (hd := by decide) (hD := by decide) (uA := by simp [usedOf_cons, usedOf_nil, upd]) (uB := by simp [usedOf_cons, usedOf_nil, upd]) (hw := by simp [awant]) (ha := rfl) (hargs := .cons (.base (.ptr (by simp [rowsLb]) rfl)) (.cons (.base (.clo (Clo.cloTo clo_str))) (.cons (.base (.clo (Clo.cloTo hcy))) .nil))) (hcan := by first | exact can_of (Nat.le_refl _) | (simp only [ASt.put, ASt.pay, Option.map_map, Function.comp_def]; exact can_of (Nat.zero_le _))) (h := ?_)
      (repeat (first | with_reducible refine AW.seq ?_ | ((first | refine arun_kn 4 rfl (fun C hC => ?_) | refine arunD_kn 4 rfl (fun C hC => ?_)); (repeat ((conv => whnf); simp [hlt, hk, hwi, backLb, rowsLb, nuLb])); refine hC _ ?_; clear hC C; simp only [List.drop, Nat.reduceAdd]) | ((first | refine arun_kn 1 rfl (fun C hC => ?_) | refine arunD_kn 1 rfl (fun C hC => ?_)); (repeat ((conv => whnf); simp [hlt, hk, hwi, backLb, rowsLb, nuLb])); refine hC _ ?_; clear hC C; simp only [List.drop, Nat.reduceAdd]) | (refine arun_skip ?_ ?_; (focus (simp [awant, hlt, hk, hwi, backLb, rowsLb, nuLb]; done))) | (refine AW.regionK [] (fun K hK => ?_)) | (refine AW.regionDK [] (pcs [] []) (by kernel_rfl) (by kernel_rfl) (fun K hK => ?_)) | (refine AW.condT ?_ ?_; (focus (simp [aev, hlt, hk, hwi, backLb, rowsLb, nuLb]; done))) | (refine AW.condF ?_ ?_; (focus (simp [aev, hlt, hk, hwi, backLb, rowsLb, nuLb]; done))) | with_reducible refine AW.block ?_ | ((first | ((first | refine arun_nil ?_ | refine arunD_nil ?_); refine hK _ ?_; clear hK K) | refine AW.skip ?_ | refine AW.exit ?_ | refine AW.ret ?_); simp only [thenA_exit, inBlockA_exit, if_true, if_false, Nat.reduceEqDiff, thenA_normal, inBlockA_normal, reduceIte, thenA_ret, inBlockA_ret, endQ_ret, endR_ret, endG_ret, endQ_normal, endR_normal, endG_normal, endF_ret, endF_normal])))
      have hnd : (putLb r0 b.names[i] l).nd = putK r0.nd b.names[i] b.kids[i] := by rw [putLb_nd, hl]
      rw [← hnd] at hnext hf
      have hfp1 := putLb_fp b.names[i] hkn hlp hA2
      have hfp2 : ∀ x ∈ (putLb r0 b.names[i] l).kids.flatMap Lb.fp, w0.wd.heap.size ≤ x := fun x hx => (putLb_fp_mem hx).elim (hkA x) (fun h => hN.ge (hA1 x h))
      refine ⟨(i + 1, putLb r0 b.names[i] l), by dsimp only; omega, ⟨by dsimp only; omega, hnext, hf, hfp1, hfp2⟩, ?_⟩
      dsimp only
      generalize putLb r0 b.names[i] l = m at *
      have hin : ∀ U : Nat → Bool, ∀ e ∈ m.kids.map labL, ∀ c ∈ e, AV.In U c := fun U => labsE_in _
      refine Less.trans (s' := mkSt (slots 0 100 [(2, .ptr true 5 1 2 0 0), (3, .ptr true 5 1 3 0 0), (4, .ptr true 5 1 4 0 0), (5, .ptr true 5 1 5 0 0), (74, .view .loose 1 (strsE b.names)), (75, .int .i64 b.names.length), (76, .int .i64 ((i + 1 : Nat) : Int))]) [(2, ⟨true, 30, 5, [[.int .i64 a.kind, .int .i64 a.num, .str a.text, .view .loose 1 (strsE a.names), .view .loose 5 (a.kids.map nodeL)]]⟩), (3, ⟨true, 30, 5, [[.int .i64 b.kind, .int .i64 b.num, .str b.text, .view .loose 1 (strsE b.names), .view .loose 5 (b.kids.map nodeL)]]⟩), (4, ⟨true, 30, 5, [zeroN]⟩), (5, boxLb m 102 103), (102, namesR m.names), (103, labsR m.kids)] [2, 3, 4, 5, 102, 103] (rd0.map fun _ => 0)) (less_of (by simp [lessL, mkSt, slots, backLb, boxLb, namesR, labsR, zeroN, nodeN, namesRow, nodeO, kidsRow]) (by simp [upd, mkSt, rowsOf_cons, backLb, boxLb, namesR, labsR, zeroN, nodeN, namesRow, nodeO, kidsRow]) (by simp [upd, mkSt, usedOf_cons, backLb, boxLb, namesR, labsR, zeroN, nodeN, namesRow, nodeO, kidsRow]) (by first | exact rd_less (by omega) | simp [mkSt, backLb, boxLb, namesR, labsR, zeroN, nodeN, namesRow, nodeO, kidsRow]) (by simp [slots, in_any, in_int, in_bool, in_str, in_ptr, in_own, in_agg, in_vnil, in_rdr, usedOf_cons, usedOf_nil, strs_in, ints_in, nodes_in, in_tup, backLb, boxLb, namesR, labsR, zeroN, nodeN, namesRow, nodeO, kidsRow]) (by simp only [List.forall_mem_cons, List.not_mem_nil, false_implies, implies_true, and_true, true_and, backLb, boxLb, namesR, labsR, zeroN, nodeN, namesRow, nodeO, kidsRow]; (repeat (first | with_reducible exact trivial | with_reducible refine And.intro ?_ ?_ | with_reducible exact in_int | with_reducible exact in_str | with_reducible exact in_bool | with_reducible exact strs_in _ | with_reducible exact nodes_in _ | with_reducible exact items_in _ | with_reducible exact in_vnil | with_reducible exact in_any | exact hin _ | with_reducible refine take_in ?_ | with_reducible exact strsE_in _ | with_reducible exact nodesE_in _ | with_reducible exact nodeL_in _ | with_reducible exact itemsE_in _ | with_reducible exact itemL_in _ | with_reducible refine app_in ?_ ?_ | with_reducible refine sing_in ?_ | (focus (simp [in_any, in_int, in_bool, in_str, in_ptr, in_own, in_agg, in_vnil, in_rdr, usedOf_cons, usedOf_nil, strs_in, ints_in, nodes_in, backLb, boxLb, namesR, labsR, zeroN, nodeN, namesRow, nodeO, kidsRow]; done)))); done)) (Less.trans (Less.rename 102 100 (by simp [mkSt, usedOf_cons, usedOf_nil])) (Less.trans (Less.rename 103 101 (by simp [ASt.rename, mkSt, rowsOf_cons, usedOf_cons, usedOf_nil, upd])) ?_))
      simp only [ASt.rename, mkSt, rowsOf_cons, Nat.reduceEqDiff, if_true, if_false, reduceIte, upd, boxLb, namesR, labsR, zeroN]
      exact (less_of (by simp [lessL, mkSt, slots, AV.subL, AV.sub, Row.sub, rowsOf_nil, strsE_sub, labsE_sub, labL_sub, strsE_len, boxLb, namesR, labsR, zeroN, nodeN, namesRow, nodeO, kidsRow]) (by simp [upd, mkSt, rowsOf_cons, AV.subL, AV.sub, Row.sub, rowsOf_nil, strsE_sub, labsE_sub, labL_sub, strsE_len, boxLb, namesR, labsR, zeroN, nodeN, namesRow, nodeO, kidsRow]) (by simp [upd, mkSt, usedOf_cons, AV.subL, AV.sub, Row.sub, rowsOf_nil, strsE_sub, labsE_sub, labL_sub, strsE_len, boxLb, namesR, labsR, zeroN, nodeN, namesRow, nodeO, kidsRow]) (by first | exact rd_less (by omega) | simp [mkSt, AV.subL, AV.sub, Row.sub, rowsOf_nil, strsE_sub, labsE_sub, labL_sub, strsE_len, boxLb, namesR, labsR, zeroN, nodeN, namesRow, nodeO, kidsRow]) (by simp [slots, in_any, in_int, in_bool, in_str, in_ptr, in_own, in_agg, in_vnil, in_rdr, usedOf_cons, usedOf_nil, strs_in, ints_in, nodes_in, in_tup, AV.subL, AV.sub, Row.sub, rowsOf_nil, strsE_sub, labsE_sub, labL_sub, strsE_len, boxLb, namesR, labsR, zeroN, nodeN, namesRow, nodeO, kidsRow]) (by simp only [List.forall_mem_cons, List.not_mem_nil, false_implies, implies_true, and_true, true_and, AV.subL, AV.sub, Row.sub, rowsOf_nil, strsE_sub, labsE_sub, labL_sub, strsE_len, boxLb, namesR, labsR, zeroN, nodeN, namesRow, nodeO, kidsRow]; (repeat (first | with_reducible exact trivial | with_reducible refine And.intro ?_ ?_ | with_reducible exact in_int | with_reducible exact in_str | with_reducible exact in_bool | with_reducible exact strs_in _ | with_reducible exact nodes_in _ | with_reducible exact items_in _ | with_reducible exact in_vnil | with_reducible exact in_any | exact hin _ | with_reducible refine take_in ?_ | with_reducible exact strsE_in _ | with_reducible exact nodesE_in _ | with_reducible exact nodeL_in _ | with_reducible exact itemsE_in _ | with_reducible exact itemL_in _ | with_reducible refine app_in ?_ ?_ | with_reducible refine sing_in ?_ | (focus (simp [in_any, in_int, in_bool, in_str, in_ptr, in_own, in_agg, in_vnil, in_rdr, usedOf_cons, usedOf_nil, strs_in, ints_in, nodes_in, AV.subL, AV.sub, Row.sub, rowsOf_nil, strsE_sub, labsE_sub, labL_sub, strsE_len, boxLb, namesR, labsR, zeroN, nodeN, namesRow, nodeO, kidsRow]; done)))); done))
    · rw [hmm] at pbs
      have hst : stB a.names r0.nd b.names[i] b.kids[i] = r0.nd := by unfold stB; rw [hmm]; rfl
      rw [hst] at hf hnext
      (repeat (first | with_reducible refine AW.seq ?_ | ((first | refine arun_kn 4 rfl (fun C hC => ?_) | refine arunD_kn 4 rfl (fun C hC => ?_)); (repeat ((conv => whnf); simp [hlt, hk, strsE_len, hwi])); refine hC _ ?_; clear hC C; simp only [List.drop, Nat.reduceAdd]) | ((first | refine arun_kn 1 rfl (fun C hC => ?_) | refine arunD_kn 1 rfl (fun C hC => ?_)); (repeat ((conv => whnf); simp [hlt, hk, strsE_len, hwi])); refine hC _ ?_; clear hC C; simp only [List.drop, Nat.reduceAdd]) | (refine arun_skip ?_ ?_; (focus (simp [awant, hlt, hk, strsE_len, hwi]; done))) | (refine arun_c0 (pbs) ?_; rintro _ rfl) | (refine AW.regionK [] (fun K hK => ?_)) | (refine AW.regionDK [] (pcs [] []) (by kernel_rfl) (by kernel_rfl) (fun K hK => ?_)) | (refine AW.condT ?_ ?_; (focus (simp [aev, hlt, hk, strsE_len, hwi]; done))) | (refine AW.condF ?_ ?_; (focus (simp [aev, hlt, hk, strsE_len, hwi]; done))) | with_reducible refine AW.block ?_ | ((first | ((first | refine arun_nil ?_ | refine arunD_nil ?_); refine hK _ ?_; clear hK K) | refine AW.skip ?_ | refine AW.exit ?_ | refine AW.ret ?_); simp only [thenA_exit, inBlockA_exit, if_true, if_false, Nat.reduceEqDiff, thenA_normal, inBlockA_normal, reduceIte, thenA_ret, inBlockA_ret, endQ_ret, endR_ret, endG_ret, endQ_normal, endR_normal, endG_normal, endF_ret, endF_normal])))
      refine ⟨(i + 1, r0), by dsimp only; omega, ⟨by dsimp only; omega, hnext, hf, hkn, hkA⟩, ?_⟩
      dsimp only
      have hin : ∀ U : Nat → Bool, ∀ e ∈ r0.kids.map labL, ∀ c ∈ e, AV.In U c := fun U => labsE_in _
      exact (less_of (by simp [lessL, mkSt, slots, boxLb, namesR, labsR, zeroN, nodeN, namesRow, nodeO, kidsRow]) (by simp [upd, mkSt, rowsOf_cons, boxLb, namesR, labsR, zeroN, nodeN, namesRow, nodeO, kidsRow]) (by simp [upd, mkSt, usedOf_cons, boxLb, namesR, labsR, zeroN, nodeN, namesRow, nodeO, kidsRow]) (by first | exact rd_less (by omega) | simp [mkSt, boxLb, namesR, labsR, zeroN, nodeN, namesRow, nodeO, kidsRow]) (by simp [slots, in_any, in_int, in_bool, in_str, in_ptr, in_own, in_agg, in_vnil, in_rdr, usedOf_cons, usedOf_nil, strs_in, ints_in, nodes_in, in_tup, boxLb, namesR, labsR, zeroN, nodeN, namesRow, nodeO, kidsRow]) (by simp only [List.forall_mem_cons, List.not_mem_nil, false_implies, implies_true, and_true, true_and, boxLb, namesR, labsR, zeroN, nodeN, namesRow, nodeO, kidsRow]; (repeat (first | with_reducible exact trivial | with_reducible refine And.intro ?_ ?_ | with_reducible exact in_int | with_reducible exact in_str | with_reducible exact in_bool | with_reducible exact strs_in _ | with_reducible exact nodes_in _ | with_reducible exact items_in _ | with_reducible exact in_vnil | with_reducible exact in_any | exact hin _ | with_reducible refine take_in ?_ | with_reducible exact strsE_in _ | with_reducible exact nodesE_in _ | with_reducible exact nodeL_in _ | with_reducible exact itemsE_in _ | with_reducible exact itemL_in _ | with_reducible refine app_in ?_ ?_ | with_reducible refine sing_in ?_ | (focus (simp [in_any, in_int, in_bool, in_str, in_ptr, in_own, in_agg, in_vnil, in_rdr, usedOf_cons, usedOf_nil, strs_in, ints_in, nodes_in, boxLb, namesR, labsR, zeroN, nodeN, namesRow, nodeO, kidsRow]; done)))); done))
  obtain rfl : i = b.names.length := by omega
  rw [pbB_end (by omega)] at hf
  refine AW.holdF 100 hN (fun g1 hg1 ht1 hr1 => ?_)
  have f1 := hr1 101 ⟨false, 30, 5, r0.kids.map labL⟩ (by simp [mkSt, upd, rowsOf_cons, labsR])
  refine AW.holdF 101 hN (fun g2 hg2 ht2 hr2 => ?_)
  have f2 := hr2 101 ⟨false, 30, 5, r0.kids.map labL⟩ (by simp [ASt.holdF, mkSt, rowsOf_cons, upd, Row.sub, labsE_sub, namesR, labsR]; exact fun a _ => labL_sub a)
  have f3 := hr2 5 ⟨true, 30, 5, [[.int .i64 r0.kind, .int .i64 r0.num, .str r0.text, .view (.fr g1) 1 (strsE r0.names), .own 101 r0.kids.length]]⟩ (by simp [ASt.holdF, mkSt, rowsOf_cons, upd, AV.subL, AV.sub, Row.sub, strsE_len, namesR, labsR, boxLb])
  clear ht1 hr1 ht2 hr2
  (repeat (first | with_reducible refine AW.seq ?_ | ((first | refine arun_kn 4 rfl (fun C hC => ?_) | refine arunD_kn 4 rfl (fun C hC => ?_)); (repeat ((conv => whnf); simp [strsE_len, ASt.holdF, boxLb, namesR, labsR, zeroN, AV.subL, AV.sub, Row.sub, rowsOf_cons, upd, labsE_sub])); refine hC _ ?_; clear hC C; simp only [List.drop, Nat.reduceAdd]) | ((first | refine arun_kn 1 rfl (fun C hC => ?_) | refine arunD_kn 1 rfl (fun C hC => ?_)); (repeat ((conv => whnf); simp [strsE_len, ASt.holdF, boxLb, namesR, labsR, zeroN, AV.subL, AV.sub, Row.sub, rowsOf_cons, upd, labsE_sub])); refine hC _ ?_; clear hC C; simp only [List.drop, Nat.reduceAdd]) | (refine arun_skip ?_ ?_; (focus (simp [awant, strsE_len, ASt.holdF, boxLb, namesR, labsR, zeroN, AV.subL, AV.sub, Row.sub, rowsOf_cons, upd, labsE_sub]; done))) | (refine AW.regionK [] (fun K hK => ?_)) | (refine AW.regionDK [] (pcs [] []) (by kernel_rfl) (by kernel_rfl) (fun K hK => ?_)) | (refine AW.condT ?_ ?_; (focus (simp [aev, strsE_len, ASt.holdF, boxLb, namesR, labsR, zeroN, AV.subL, AV.sub, Row.sub, rowsOf_cons, upd, labsE_sub]; done))) | (refine AW.condF ?_ ?_; (focus (simp [aev, strsE_len, ASt.holdF, boxLb, namesR, labsR, zeroN, AV.subL, AV.sub, Row.sub, rowsOf_cons, upd, labsE_sub]; done))) | with_reducible refine AW.block ?_ | ((first | ((first | refine arun_nil ?_ | refine arunD_nil ?_); refine hK _ ?_; clear hK K) | refine AW.skip ?_ | refine AW.exit ?_ | refine AW.ret ?_); simp only [thenA_exit, inBlockA_exit, if_true, if_false, Nat.reduceEqDiff, thenA_normal, inBlockA_normal, reduceIte, thenA_ret, inBlockA_ret, endQ_ret, endR_ret, endG_ret, endQ_normal, endR_normal, endG_normal, endF_ret, endF_normal])))
  rw [atE_labs] at f1 f2
  refine ⟨labA ⟨r0.kind, r0.num, r0.text, r0.names, g1, r0.kids, g2⟩, by unfold labA; rw [labL_eq]; simp [ares, aresL, upd, rowsOf_cons, labL_sub, boxLb, namesR, labsR, AV.subL, AV.sub, Row.sub], lab_pur _, fun b hb => ?_, ⟨_, _, _, _, _, _, _⟩, ?_, fp_nodup hkn f1 f2 (fun h1 _ => f3 g1 ?_), rfl⟩
  · rw [at_lab] at hb
    exact fp_ge (l := ⟨r0.kind, r0.num, r0.text, r0.names, g1, r0.kids, g2⟩) hkA hg1 hg2 b hb
  · rw [← hf, nd_eq, nd_eq r0]
  · dsimp only at h1
    have : (strsE r0.names).isEmpty = false := by unfold strsE; cases hh : r0.names with | nil => exact absurd hh h1 | cons _ _ => rfl
    simp [atE_cons, atE_nil, atL_cons, atL_nil, at_int, at_str, at_own, at_view, frB_fr, this]
theorem patchBetween_ACF : ∀ a, Shp a → ∀ b, Shp b → ACF Try.prog 127 [nodeA a, nodeA b] 0 (rLab (pb a b)) := Nd.ind' _ (fun a ih ha b hb =>
  patchBetweenF_step a b ha hb (fun k hk m hm => ih k hk (ha.kid hk) m hm))
end Go.Proofs.Ytgfnmhfdmmnaoaa.Eng
-- EV: rows
namespace Go.Proofs.Ytgfnmhfdmmnaoaa.Eng
open Go Go.RowKit
attribute [local simp] big size_mk ASt.pay Option.map_map Function.comp_def awant aop acall ado aev ofVal ofVal0 ASt.put ASt.add ASt.turn ASt.kill abox aalloc astore aload aloadD astoreD idOf ASt.at cellsTo afieldAddr afield aindexAddr aindex alen abin aint acmp astr aun apick aextract anil aslice abound abuild afill abuildSlice asCells aps avCells over upd aappend asrc amax amin aconv mkSt slots rowsOf_cons rowsOf_nil usedOf_cons usedOf_nil ZK.av List.replicate ASt.back ASt.addL ASt.killL nodeA nodeT nodeTL_eq nodeL_eq strsE_get strsE_len intsE_get intsE_len strsE_at intsE_at nodeN namesRow nodeO kidsRow tab2 tab3 tab4 tab5 tab6 tab7 tab8 tab9 tab10 tab11 tab12 tab13 tab14 tab15 tab16 tab17 tab18 tab19 tab21 tab22 tab23 tab24 tab25 tab26 tab27 tab28 tab29 tab30 tab39 tab40 tab41 tab42 tab43 tab47 tab48 tab55 tab56 tab57 tab60 tab61 tab62 tab73 tab74 tab75 tab85 tab92 tab115 tab116 tab143 tab144 tab145 tab154 tab155 tab170 tab175 tab182 tab197 tab198 tab203 tab204 tab205 tab207 tab208 tab209
theorem nodeO_res (n : Nd) (id0 : Nat) : Res1 id0 (nodeO n) := Res1.agg [fun _ => .int .i64 n.kind, fun _ => .int .i64 n.num, fun _ => .str n.text, fun _ => .view .loose 1 (strsE n.names), fun id => .own id n.kids.length] (by
  simp only [List.forall_mem_cons, List.not_mem_nil, false_implies, implies_true, and_true]
  exact ⟨Res1.pur _ pur_int, Res1.pur _ pur_int, Res1.pur _ pur_str, Res1.pur _ (strs_pur _ (by decide)), Res1.own _ _⟩)
theorem optA_in (o : Option Nd) : NoId (optA o) := by
  unfold optA NoId
  have h := node_in (U := fun _ => false) (o.getD Nd.zero)
  unfold nodeA at h
  rw [nodeL_eq] at h
  simp [in_tup, in_bool]
  exact h
def optL (o : Option Nd) : AV := .tup [.agg [.int .i64 (o.getD Nd.zero).kind, .int .i64 (o.getD Nd.zero).num, .str (o.getD Nd.zero).text, .view .loose 1 (strsE (o.getD Nd.zero).names), .view .loose 5 ((o.getD Nd.zero).kids.map nodeL)], .bool o.isSome]
theorem optA_eq (o : Option Nd) : optA o = optL o := by unfold optA optL nodeA; rw [nodeL_eq]
theorem optL_in (o : Option Nd) : NoId (optL o) := by rw [← optA_eq]; exact optA_in o
theorem optA_pur (o : Option Nd) : Pur (optA o) := tup2_pur (node_pur _) pur_bool
theorem kids_set (n v : Nd) (k : Nat) : (setK n k v).kids.map nodeL = (n.kids.map nodeL).set k (nodeL v) := by simp [setK, List.map_set]
theorem withKid_ACR (n v : Nd) (k : Nat) (hn : Sml n) (hv : Sml v) (hk : k < n.kids.length) : ACR Try.prog 156 [nodeA n, .int .i64 k, nodeA v] 0 (fun _ => False) (fun f R => f = nodeO (setK n k v) ∧ R = kidsRow (setK n k v)) := by
  unfold nodeA
  rw [nodeL_eq n, nodeL_eq v]
  refine ACR.of tab_ok mixed_ok Try.func156 (by rfl) (by kernel_rfl) ?_; rintro ⟨P, T, hT, hm, w0, S0, rd0, k0⟩ hP hTT; dsimp only at hP hTT; subst hP hTT; unfold initSt; rw [Try.ntmps156]
  (repeat (first | with_reducible refine AW.seq ?_ | ((first | refine arun_kn 4 rfl (fun C hC => ?_) | refine arunD_kn 4 rfl (fun C hC => ?_)); (repeat ((conv => whnf); simp [hk])); refine hC _ ?_; clear hC C; simp only [List.drop, Nat.reduceAdd]) | ((first | refine arun_kn 1 rfl (fun C hC => ?_) | refine arunD_kn 1 rfl (fun C hC => ?_)); (repeat ((conv => whnf); simp [hk])); refine hC _ ?_; clear hC C; simp only [List.drop, Nat.reduceAdd]) | (refine arun_skip ?_ ?_; (focus (simp [awant, hk]; done))) | (refine arun_cR (0) 30 (copyNode_ACR n hn .loose) ?_; (rintro _ _ ⟨rfl, rfl⟩; unfold nodeO kidsRow)) | (refine arun_c0 (copyNode_AC v hv .loose) ?_; rintro _ rfl) | (refine arunD_c (0) (copyNode_AC v hv .loose) ?_; rintro _ rfl; intro _) | (refine AW.regionK [] (fun K hK => ?_)) | (refine AW.regionDK [] (pcs [(4, 0, fun r => r = nodeA v)] []) (by kernel_rfl) (by kernel_rfl) (fun K hK => ?_)) | (refine AW.condT ?_ ?_; (focus (simp [aev, hk]; done))) | (refine AW.condF ?_ ?_; (focus (simp [aev, hk]; done))) | with_reducible refine AW.block ?_ | ((first | ((first | refine arun_nil ?_ | refine arunD_nil ?_); refine hK _ ?_; clear hK K) | refine AW.skip ?_ | refine AW.exit ?_ | refine AW.ret ?_); simp only [thenA_exit, inBlockA_exit, if_true, if_false, Nat.reduceEqDiff, thenA_normal, inBlockA_normal, reduceIte, thenA_ret, inBlockA_ret, endQ_ret, endR_ret, endG_ret, endQ_normal, endR_normal, endG_normal])))
  exact ⟨nodeO (setK n k v) 30, by simp [nodeO, setK, ares, aresL, upd, rowsOf_cons], .inr ⟨nodeO (setK n k v), 30, kidsRow (setK n k v), rfl, by unfold kidsRow; rw [kids_set]; simp [upd, kidsRow, nodeL_eq], nodeO_res _ 30, nodesE_pur _, rfl, rfl⟩⟩
theorem withKid_AC (n v : Nd) (k : Nat) (hn : Sml n) (hv : Sml v) (hk : k < n.kids.length) : AC Try.prog 156 [nodeA n, .int .i64 k, nodeA v] 0 (fun r => r = nodeA (setK n k v)) := by
  refine (AC.ofR (withKid_ACR n v k hn hv hk) ?_).mono ?_
  · rintro r R ⟨rfl, rfl⟩
    rw [nodeO_sub]
    exact node_in _
  · rintro r (h | ⟨f, R, ⟨rfl, rfl⟩, rfl⟩)
    · exact h.elim
    · exact nodeO_sub _
end Go.Proofs.Ytgfnmhfdmmnaoaa.Eng
-- EV: rows
namespace Go.Proofs.Ytgfnmhfdmmnaoaa.Eng
open Go Go.RowKit
attribute [local simp] big size_mk ASt.pay Option.map_map Function.comp_def awant aop acall ado aev ofVal ofVal0 ASt.put ASt.add ASt.turn ASt.kill abox aalloc astore aload aloadD astoreD idOf ASt.at cellsTo afieldAddr afield aindexAddr aindex alen abin aint acmp astr aun apick aextract anil aslice abound abuild afill abuildSlice asCells aps avCells over upd aappend asrc amax amin aconv mkSt slots rowsOf_cons rowsOf_nil usedOf_cons usedOf_nil ZK.av List.replicate ASt.back ASt.addL ASt.killL nodeA nodeT nodeTL_eq nodeL_eq strsE_get strsE_len intsE_get intsE_len strsE_at intsE_at nodeN namesRow nodeO kidsRow tab2 tab3 tab4 tab5 tab6 tab7 tab8 tab9 tab10 tab11 tab12 tab13 tab14 tab15 tab16 tab17 tab18 tab19 tab21 tab22 tab23 tab24 tab25 tab26 tab27 tab28 tab29 tab30 tab39 tab40 tab41 tab42 tab43 tab47 tab48 tab55 tab56 tab57 tab60 tab61 tab62 tab73 tab74 tab75 tab85 tab92 tab115 tab116 tab143 tab144 tab145 tab154 tab155 tab170 tab175 tab182 tab197 tab198 tab203 tab204 tab205 tab207 tab208 tab209
end Go.Proofs.Ytgfnmhfdmmnaoaa.Eng
-- EV: rows skip
namespace Go.Proofs.Ytgfnmhfdmmnaoaa.Eng
open Go Go.RowKit
attribute [local simp] big size_mk ASt.pay Option.map_map Function.comp_def awant aop acall ado aev ofVal ofVal0 ASt.put ASt.add ASt.turn ASt.kill abox aalloc astore aload aloadD astoreD idOf ASt.at cellsTo afieldAddr afield aindexAddr aindex alen abin aint acmp astr aun apick aextract anil aslice abound abuild afill abuildSlice asCells aps avCells over upd aappend asrc amax amin aconv mkSt slots rowsOf_cons rowsOf_nil usedOf_cons usedOf_nil ZK.av List.replicate ASt.back ASt.addL ASt.killL nodeA nodeT nodeTL_eq nodeL_eq strsE_get strsE_len intsE_get intsE_len strsE_at intsE_at nodeN namesRow nodeO kidsRow tab2 tab3 tab4 tab5 tab6 tab7 tab8 tab9 tab10 tab11 tab12 tab13 tab14 tab15 tab16 tab17 tab18 tab19 tab21 tab22 tab23 tab24 tab25 tab26 tab27 tab28 tab29 tab30 tab39 tab40 tab41 tab42 tab43 tab47 tab48 tab55 tab56 tab57 tab60 tab61 tab62 tab73 tab74 tab75 tab85 tab92 tab115 tab116 tab143 tab144 tab145 tab154 tab155 tab170 tab175 tab182 tab197 tab198 tab203 tab204 tab205 tab207 tab208 tab209
def slotA (o : Option (Nat × Bool)) : AV := match o with
  | none => .tup [.int .i64 (-1), .bool false]
  | some x => .tup [.int .i64 (x.1 : Nat), .bool x.2]
theorem slotG_AC (n : Nd) (st : ByteArray) (hn : Slt n) : AC Try.prog 181 [nodeA n, .str st] 0 (fun r => r = slotA (slotS n st)) := by
  have h6 := hn.sml.kids
  have pk := place_ok .loose n st hn.plc
  unfold nodeT at pk
  rw [nodeTL_eq] at pk
  unfold nodeA
  rw [nodeL_eq]
  refine AC.of tab_ok mixed_ok Try.func181 (by rfl) (by kernel_rfl) ?_; rintro ⟨P, T, hT, hm, w0, S0, rd0, k0⟩ hP hTT; dsimp only at hP hTT; subst hP hTT; unfold initSt; rw [Try.ntmps181]
  rcases placeI_cases n st with ⟨h1, _⟩ | ⟨k, h1, h2, _⟩
  · rw [h1] at pk
    by_cases h3 : n.kind = 3
    · have h4 : (n.kind == 4) = false := by rw [h3]; rfl
      have pd := decimal_AC n.kids.length (by have := hn.lst h3; omega)
      cases e1 : eqs st ⟨#[45]⟩
      · cases e2 : eqs st (txt (dig1 n.kids.length))
        · have e : slotS n st = none := by unfold slotS dash; rw [h1, if_neg (by omega), if_neg (by rw [e1, e2]; simp), if_neg (by omega)]
          generalize txt (dig1 n.kids.length) = dd at *
          (repeat (first | with_reducible refine AW.seq ?_ | ((first | refine arun_kn 4 rfl (fun C hC => ?_) | refine arunD_kn 4 rfl (fun C hC => ?_)); (repeat ((conv => whnf); simp [h3, e1, e2])); refine hC _ ?_; clear hC C; simp only [List.drop, Nat.reduceAdd]) | ((first | refine arun_kn 1 rfl (fun C hC => ?_) | refine arunD_kn 1 rfl (fun C hC => ?_)); (repeat ((conv => whnf); simp [h3, e1, e2])); refine hC _ ?_; clear hC C; simp only [List.drop, Nat.reduceAdd]) | (refine arun_skip ?_ ?_; (focus (simp [awant, h3, e1, e2]; done))) | (refine arun_c0 (hx := by (simp [h3, e1, e2] <;> fail)) (pk) ?_; rintro _ rfl) | (refine arun_c0 (pd) ?_; rintro _ rfl) | (refine arunD_skip ?_ ?_; (focus (simp [awant, h3, e1, e2]; done))) | (refine AW.regionK [] (fun K hK => ?_)) | (refine AW.regionDK [] (pcs [] []) (by kernel_rfl) (by kernel_rfl) (fun K hK => ?_)) | (refine AW.condT ?_ ?_; (focus (simp [aev, h3, e1, e2]; done))) | (refine AW.condF ?_ ?_; (focus (simp [aev, h3, e1, e2]; done))) | with_reducible refine AW.block ?_ | ((first | ((first | refine arun_nil ?_ | refine arunD_nil ?_); refine hK _ ?_; clear hK K) | refine AW.skip ?_ | refine AW.exit ?_ | refine AW.ret ?_); simp only [thenA_exit, inBlockA_exit, if_true, if_false, Nat.reduceEqDiff, thenA_normal, inBlockA_normal, reduceIte, thenA_ret, inBlockA_ret, endQ_ret, endR_ret, endG_ret, endQ_normal, endR_normal, endG_normal])))
          refine AW.loopS (fun (i : Nat) => mkSt (slots 0 62 [(1, .str st), (2, .ptr true 5 1 2 0 0), (7, .int .i64 i)]) [(2, ⟨true, 30, 5, [nodeL n]⟩)] [2] (rd0.map fun _ => 0)) (fun i => 0) (fun i => i = 0) 0 ?_ rfl ?_
          · rw [nodeL_eq]
            exact (less_of (by simp [lessL, mkSt, slots, h3, nodeN, namesRow, nodeO, kidsRow]) (by simp [upd, mkSt, rowsOf_cons, h3, nodeN, namesRow, nodeO, kidsRow]) (by simp [upd, mkSt, usedOf_cons, h3, nodeN, namesRow, nodeO, kidsRow]) (by first | exact rd_less (by omega) | simp [mkSt, h3, nodeN, namesRow, nodeO, kidsRow]) (by simp [slots, in_any, in_int, in_bool, in_str, in_ptr, in_own, in_agg, in_vnil, in_rdr, usedOf_cons, usedOf_nil, strs_in, ints_in, nodes_in, in_tup, h3, nodeN, namesRow, nodeO, kidsRow]) (by simp only [List.forall_mem_cons, List.not_mem_nil, false_implies, implies_true, and_true, true_and, h3, nodeN, namesRow, nodeO, kidsRow]; (repeat (first | with_reducible exact trivial | with_reducible refine And.intro ?_ ?_ | with_reducible exact in_int | with_reducible exact in_str | with_reducible exact in_bool | with_reducible exact strs_in _ | with_reducible exact nodes_in _ | with_reducible exact items_in _ | with_reducible exact in_vnil | with_reducible exact in_any | exact hin _ | with_reducible refine take_in ?_ | with_reducible exact strsE_in _ | with_reducible exact nodesE_in _ | with_reducible exact nodeL_in _ | with_reducible exact itemsE_in _ | with_reducible exact itemL_in _ | with_reducible refine app_in ?_ ?_ | with_reducible refine sing_in ?_ | (focus (simp [in_any, in_int, in_bool, in_str, in_ptr, in_own, in_agg, in_vnil, in_rdr, usedOf_cons, usedOf_nil, strs_in, ints_in, nodes_in, h3, nodeN, namesRow, nodeO, kidsRow]; done)))); done))
          · rintro i rfl
            rw [nodeL_eq]
            (repeat (first | with_reducible refine AW.seq ?_ | ((first | refine arun_kn 4 rfl (fun C hC => ?_) | refine arunD_kn 4 rfl (fun C hC => ?_)); (repeat ((conv => whnf); simp [h3])); refine hC _ ?_; clear hC C; simp only [List.drop, Nat.reduceAdd]) | ((first | refine arun_kn 1 rfl (fun C hC => ?_) | refine arunD_kn 1 rfl (fun C hC => ?_)); (repeat ((conv => whnf); simp [h3])); refine hC _ ?_; clear hC C; simp only [List.drop, Nat.reduceAdd]) | (refine arun_skip ?_ ?_; (focus (simp [awant, h3]; done))) | (refine arunD_skip ?_ ?_; (focus (simp [awant, h3]; done))) | (refine AW.regionK [] (fun K hK => ?_)) | (refine AW.regionDK [] (pcs [] []) (by kernel_rfl) (by kernel_rfl) (fun K hK => ?_)) | (refine AW.condT ?_ ?_; (focus (simp [aev, h3]; done))) | (refine AW.condF ?_ ?_; (focus (simp [aev, h3]; done))) | with_reducible refine AW.block ?_ | ((first | ((first | refine arun_nil ?_ | refine arunD_nil ?_); refine hK _ ?_; clear hK K) | refine AW.skip ?_ | refine AW.exit ?_ | refine AW.ret ?_); simp only [thenA_exit, inBlockA_exit, if_true, if_false, Nat.reduceEqDiff, thenA_normal, inBlockA_normal, reduceIte, thenA_ret, inBlockA_ret, endQ_ret, endR_ret, endG_ret, endQ_normal, endR_normal, endG_normal])))
            exact ⟨.tup [.int .i64 (-1), .bool false], by simp [ares, aresL], tup2_pur pur_int pur_bool, by rw [e]; rfl⟩
        · have e : slotS n st = some (n.kids.length, false) := by unfold slotS dash; rw [h1, if_neg (by omega), if_pos ⟨h3, by rw [e2]; simp⟩]
          generalize txt (dig1 n.kids.length) = dd at *
          (repeat (first | with_reducible refine AW.seq ?_ | ((first | refine arun_kn 4 rfl (fun C hC => ?_) | refine arunD_kn 4 rfl (fun C hC => ?_)); (repeat ((conv => whnf); simp [h3, e1, e2])); refine hC _ ?_; clear hC C; simp only [List.drop, Nat.reduceAdd]) | ((first | refine arun_kn 1 rfl (fun C hC => ?_) | refine arunD_kn 1 rfl (fun C hC => ?_)); (repeat ((conv => whnf); simp [h3, e1, e2])); refine hC _ ?_; clear hC C; simp only [List.drop, Nat.reduceAdd]) | (refine arun_skip ?_ ?_; (focus (simp [awant, h3, e1, e2]; done))) | (refine arun_c0 (hx := by (simp [h3, e1, e2] <;> fail)) (pk) ?_; rintro _ rfl) | (refine arun_c0 (pd) ?_; rintro _ rfl) | (refine arunD_skip ?_ ?_; (focus (simp [awant, h3, e1, e2]; done))) | (refine AW.regionK [] (fun K hK => ?_)) | (refine AW.regionDK [] (pcs [] []) (by kernel_rfl) (by kernel_rfl) (fun K hK => ?_)) | (refine AW.condT ?_ ?_; (focus (simp [aev, h3, e1, e2]; done))) | (refine AW.condF ?_ ?_; (focus (simp [aev, h3, e1, e2]; done))) | with_reducible refine AW.block ?_ | ((first | ((first | refine arun_nil ?_ | refine arunD_nil ?_); refine hK _ ?_; clear hK K) | refine AW.skip ?_ | refine AW.exit ?_ | refine AW.ret ?_); simp only [thenA_exit, inBlockA_exit, if_true, if_false, Nat.reduceEqDiff, thenA_normal, inBlockA_normal, reduceIte, thenA_ret, inBlockA_ret, endQ_ret, endR_ret, endG_ret, endQ_normal, endR_normal, endG_normal])))
          exact ⟨.tup [.int .i64 n.kids.length, .bool false], by simp [ares, aresL], tup2_pur pur_int pur_bool, by rw [e]; rfl⟩
      · have e : slotS n st = some (n.kids.length, false) := by unfold slotS dash; rw [h1, if_neg (by omega), if_pos ⟨h3, by rw [e1]; simp⟩]
        (repeat (first | with_reducible refine AW.seq ?_ | ((first | refine arun_kn 4 rfl (fun C hC => ?_) | refine arunD_kn 4 rfl (fun C hC => ?_)); (repeat ((conv => whnf); simp [h3, e1])); refine hC _ ?_; clear hC C; simp only [List.drop, Nat.reduceAdd]) | ((first | refine arun_kn 1 rfl (fun C hC => ?_) | refine arunD_kn 1 rfl (fun C hC => ?_)); (repeat ((conv => whnf); simp [h3, e1])); refine hC _ ?_; clear hC C; simp only [List.drop, Nat.reduceAdd]) | (refine arun_skip ?_ ?_; (focus (simp [awant, h3, e1]; done))) | (refine arun_c0 (hx := by (simp [h3, e1] <;> fail)) (pk) ?_; rintro _ rfl) | (refine arun_c0 (pd) ?_; rintro _ rfl) | (refine arunD_skip ?_ ?_; (focus (simp [awant, h3, e1]; done))) | (refine AW.regionK [] (fun K hK => ?_)) | (refine AW.regionDK [] (pcs [] []) (by kernel_rfl) (by kernel_rfl) (fun K hK => ?_)) | (refine AW.condT ?_ ?_; (focus (simp [aev, h3, e1]; done))) | (refine AW.condF ?_ ?_; (focus (simp [aev, h3, e1]; done))) | with_reducible refine AW.block ?_ | ((first | ((first | refine arun_nil ?_ | refine arunD_nil ?_); refine hK _ ?_; clear hK K) | refine AW.skip ?_ | refine AW.exit ?_ | refine AW.ret ?_); simp only [thenA_exit, inBlockA_exit, if_true, if_false, Nat.reduceEqDiff, thenA_normal, inBlockA_normal, reduceIte, thenA_ret, inBlockA_ret, endQ_ret, endR_ret, endG_ret, endQ_normal, endR_normal, endG_normal])))
        exact ⟨.tup [.int .i64 n.kids.length, .bool false], by simp [ares, aresL], tup2_pur pur_int pur_bool, by rw [e]; rfl⟩
    · have h3' : (n.kind == 3) = false := by simpa using h3
      by_cases h4 : n.kind = 4
      · have hnl := hn.map h4
        have e : slotS n st = some (nmI st n.names, false) := by unfold slotS; rw [h1, if_neg (by omega), if_neg (by simp [h3]), if_pos h4]
        (repeat (first | with_reducible refine AW.seq ?_ | ((first | refine arun_kn 4 rfl (fun C hC => ?_) | refine arunD_kn 4 rfl (fun C hC => ?_)); (repeat ((conv => whnf); simp [h4, h3, h3'])); refine hC _ ?_; clear hC C; simp only [List.drop, Nat.reduceAdd]) | ((first | refine arun_kn 1 rfl (fun C hC => ?_) | refine arunD_kn 1 rfl (fun C hC => ?_)); (repeat ((conv => whnf); simp [h4, h3, h3'])); refine hC _ ?_; clear hC C; simp only [List.drop, Nat.reduceAdd]) | (refine arun_skip ?_ ?_; (focus (simp [awant, h4, h3, h3']; done))) | (refine arun_c0 (hx := by (simp [h4, h3, h3'] <;> fail)) (pk) ?_; rintro _ rfl) | (refine arunD_skip ?_ ?_; (focus (simp [awant, h4, h3, h3']; done))) | (refine AW.regionK [] (fun K hK => ?_)) | (refine AW.regionDK [] (pcs [] []) (by kernel_rfl) (by kernel_rfl) (fun K hK => ?_)) | (refine AW.condT ?_ ?_; (focus (simp [aev, h4, h3, h3']; done))) | (refine AW.condF ?_ ?_; (focus (simp [aev, h4, h3, h3']; done))) | with_reducible refine AW.block ?_ | ((first | ((first | refine arun_nil ?_ | refine arunD_nil ?_); refine hK _ ?_; clear hK K) | refine AW.skip ?_ | refine AW.exit ?_ | refine AW.ret ?_); simp only [thenA_exit, inBlockA_exit, if_true, if_false, Nat.reduceEqDiff, thenA_normal, inBlockA_normal, reduceIte, thenA_ret, inBlockA_ret, endQ_ret, endR_ret, endG_ret, endQ_normal, endR_normal, endG_normal])))
        refine AW.loopS (fun (i : Nat) => mkSt (slots 0 62 [(1, .str st), (2, .ptr true 5 1 2 0 0), (7, .int .i64 i)]) [(2, ⟨true, 30, 5, [nodeL n]⟩)] [2] (rd0.map fun _ => 0)) (fun i => n.kids.length - i) (fun i => i ≤ n.kids.length ∧ nmI st n.names = nmI st (n.names.drop i) + i) 0 ?_ ⟨Nat.zero_le _, rfl⟩ ?_
        · rw [nodeL_eq]
          exact (less_of (by simp [lessL, mkSt, slots, h4, nodeN, namesRow, nodeO, kidsRow]) (by simp [upd, mkSt, rowsOf_cons, h4, nodeN, namesRow, nodeO, kidsRow]) (by simp [upd, mkSt, usedOf_cons, h4, nodeN, namesRow, nodeO, kidsRow]) (by first | exact rd_less (by omega) | simp [mkSt, h4, nodeN, namesRow, nodeO, kidsRow]) (by simp [slots, in_any, in_int, in_bool, in_str, in_ptr, in_own, in_agg, in_vnil, in_rdr, usedOf_cons, usedOf_nil, strs_in, ints_in, nodes_in, in_tup, h4, nodeN, namesRow, nodeO, kidsRow]) (by simp only [List.forall_mem_cons, List.not_mem_nil, false_implies, implies_true, and_true, true_and, h4, nodeN, namesRow, nodeO, kidsRow]; (repeat (first | with_reducible exact trivial | with_reducible refine And.intro ?_ ?_ | with_reducible exact in_int | with_reducible exact in_str | with_reducible exact in_bool | with_reducible exact strs_in _ | with_reducible exact nodes_in _ | with_reducible exact items_in _ | with_reducible exact in_vnil | with_reducible exact in_any | exact hin _ | with_reducible refine take_in ?_ | with_reducible exact strsE_in _ | with_reducible exact nodesE_in _ | with_reducible exact nodeL_in _ | with_reducible exact itemsE_in _ | with_reducible exact itemL_in _ | with_reducible refine app_in ?_ ?_ | with_reducible refine sing_in ?_ | (focus (simp [in_any, in_int, in_bool, in_str, in_ptr, in_own, in_agg, in_vnil, in_rdr, usedOf_cons, usedOf_nil, strs_in, ints_in, nodes_in, h4, nodeN, namesRow, nodeO, kidsRow]; done)))); done))
        · rintro i ⟨hi, hf⟩
          rw [nodeL_eq]
          have hi' : (i : Int) ≤ (n.kids.length : Int) := by omega
          by_cases hlt : i < n.kids.length
          · have hni : i < n.names.length := by omega
            have hw : IntKind.i64.wrap ((i : Int) + 1) = (i : Int) + 1 := i64_nat (by omega) (by omega)
            have hne : ¬ i = n.kids.length := by omega
            have hbi : ((i : Int) == (n.kids.length : Int)) = false := beq_false_of_ne (by omega)
            cases hb : lts st n.names[i]
            · rw [nmI_drop hni hb] at hf
              (repeat (first | with_reducible refine AW.seq ?_ | ((first | refine arun_kn 4 rfl (fun C hC => ?_) | refine arunD_kn 4 rfl (fun C hC => ?_)); (repeat ((conv => whnf); simp [h4, hi', hi, hne, hbi, hni, hb, hw])); refine hC _ ?_; clear hC C; simp only [List.drop, Nat.reduceAdd]) | ((first | refine arun_kn 1 rfl (fun C hC => ?_) | refine arunD_kn 1 rfl (fun C hC => ?_)); (repeat ((conv => whnf); simp [h4, hi', hi, hne, hbi, hni, hb, hw])); refine hC _ ?_; clear hC C; simp only [List.drop, Nat.reduceAdd]) | (refine arun_skip ?_ ?_; (focus (simp [awant, h4, hi', hi, hne, hbi, hni, hb, hw]; done))) | (refine arunD_skip ?_ ?_; (focus (simp [awant, h4, hi', hi, hne, hbi, hni, hb, hw]; done))) | (refine AW.regionK [] (fun K hK => ?_)) | (refine AW.regionDK [] (pcs [] []) (by kernel_rfl) (by kernel_rfl) (fun K hK => ?_)) | (refine AW.condT ?_ ?_; (focus (simp [aev, h4, hi', hi, hne, hbi, hni, hb, hw]; done))) | (refine AW.condF ?_ ?_; (focus (simp [aev, h4, hi', hi, hne, hbi, hni, hb, hw]; done))) | with_reducible refine AW.block ?_ | ((first | ((first | refine arun_nil ?_ | refine arunD_nil ?_); refine hK _ ?_; clear hK K) | refine AW.skip ?_ | refine AW.exit ?_ | refine AW.ret ?_); simp only [thenA_exit, inBlockA_exit, if_true, if_false, Nat.reduceEqDiff, thenA_normal, inBlockA_normal, reduceIte, thenA_ret, inBlockA_ret, endQ_ret, endR_ret, endG_ret, endQ_normal, endR_normal, endG_normal])))
              exact ⟨i + 1, by omega, ⟨by omega, hf⟩, (less_of (by simp [lessL, mkSt, slots, h4, nodeN, namesRow, nodeO, kidsRow]) (by simp [upd, mkSt, rowsOf_cons, h4, nodeN, namesRow, nodeO, kidsRow]) (by simp [upd, mkSt, usedOf_cons, h4, nodeN, namesRow, nodeO, kidsRow]) (by first | exact rd_less (by omega) | simp [mkSt, h4, nodeN, namesRow, nodeO, kidsRow]) (by simp [slots, in_any, in_int, in_bool, in_str, in_ptr, in_own, in_agg, in_vnil, in_rdr, usedOf_cons, usedOf_nil, strs_in, ints_in, nodes_in, in_tup, h4, nodeN, namesRow, nodeO, kidsRow]) (by simp only [List.forall_mem_cons, List.not_mem_nil, false_implies, implies_true, and_true, true_and, h4, nodeN, namesRow, nodeO, kidsRow]; (repeat (first | with_reducible exact trivial | with_reducible refine And.intro ?_ ?_ | with_reducible exact in_int | with_reducible exact in_str | with_reducible exact in_bool | with_reducible exact strs_in _ | with_reducible exact nodes_in _ | with_reducible exact items_in _ | with_reducible exact in_vnil | with_reducible exact in_any | exact hin _ | with_reducible refine take_in ?_ | with_reducible exact strsE_in _ | with_reducible exact nodesE_in _ | with_reducible exact nodeL_in _ | with_reducible exact itemsE_in _ | with_reducible exact itemL_in _ | with_reducible refine app_in ?_ ?_ | with_reducible refine sing_in ?_ | (focus (simp [in_any, in_int, in_bool, in_str, in_ptr, in_own, in_agg, in_vnil, in_rdr, usedOf_cons, usedOf_nil, strs_in, ints_in, nodes_in, h4, nodeN, namesRow, nodeO, kidsRow]; done)))); done))⟩
            · rw [nmI_at hni hb] at hf
              (repeat (first | with_reducible refine AW.seq ?_ | ((first | refine arun_kn 4 rfl (fun C hC => ?_) | refine arunD_kn 4 rfl (fun C hC => ?_)); (repeat ((conv => whnf); simp [h4, hi', hi, hne, hbi, hni, hb, hw])); refine hC _ ?_; clear hC C; simp only [List.drop, Nat.reduceAdd]) | ((first | refine arun_kn 1 rfl (fun C hC => ?_) | refine arunD_kn 1 rfl (fun C hC => ?_)); (repeat ((conv => whnf); simp [h4, hi', hi, hne, hbi, hni, hb, hw])); refine hC _ ?_; clear hC C; simp only [List.drop, Nat.reduceAdd]) | (refine arun_skip ?_ ?_; (focus (simp [awant, h4, hi', hi, hne, hbi, hni, hb, hw]; done))) | (refine arunD_skip ?_ ?_; (focus (simp [awant, h4, hi', hi, hne, hbi, hni, hb, hw]; done))) | (refine AW.regionK [] (fun K hK => ?_)) | (refine AW.regionDK [] (pcs [] []) (by kernel_rfl) (by kernel_rfl) (fun K hK => ?_)) | (refine AW.condT ?_ ?_; (focus (simp [aev, h4, hi', hi, hne, hbi, hni, hb, hw]; done))) | (refine AW.condF ?_ ?_; (focus (simp [aev, h4, hi', hi, hne, hbi, hni, hb, hw]; done))) | with_reducible refine AW.block ?_ | ((first | ((first | refine arun_nil ?_ | refine arunD_nil ?_); refine hK _ ?_; clear hK K) | refine AW.skip ?_ | refine AW.exit ?_ | refine AW.ret ?_); simp only [thenA_exit, inBlockA_exit, if_true, if_false, Nat.reduceEqDiff, thenA_normal, inBlockA_normal, reduceIte, thenA_ret, inBlockA_ret, endQ_ret, endR_ret, endG_ret, endQ_normal, endR_normal, endG_normal])))
              exact ⟨.tup [.int .i64 i, .bool false], by simp [ares, aresL], tup2_pur pur_int pur_bool, by rw [e, hf, Nat.zero_add]; rfl⟩
          · obtain rfl : i = n.kids.length := by omega
            rw [List.drop_eq_nil_of_le (by omega), nmI, Nat.zero_add] at hf
            (repeat (first | with_reducible refine AW.seq ?_ | ((first | refine arun_kn 4 rfl (fun C hC => ?_) | refine arunD_kn 4 rfl (fun C hC => ?_)); (repeat ((conv => whnf); simp [h4])); refine hC _ ?_; clear hC C; simp only [List.drop, Nat.reduceAdd]) | ((first | refine arun_kn 1 rfl (fun C hC => ?_) | refine arunD_kn 1 rfl (fun C hC => ?_)); (repeat ((conv => whnf); simp [h4])); refine hC _ ?_; clear hC C; simp only [List.drop, Nat.reduceAdd]) | (refine arun_skip ?_ ?_; (focus (simp [awant, h4]; done))) | (refine arunD_skip ?_ ?_; (focus (simp [awant, h4]; done))) | (refine AW.regionK [] (fun K hK => ?_)) | (refine AW.regionDK [] (pcs [] []) (by kernel_rfl) (by kernel_rfl) (fun K hK => ?_)) | (refine AW.condT ?_ ?_; (focus (simp [aev, h4]; done))) | (refine AW.condF ?_ ?_; (focus (simp [aev, h4]; done))) | with_reducible refine AW.block ?_ | ((first | ((first | refine arun_nil ?_ | refine arunD_nil ?_); refine hK _ ?_; clear hK K) | refine AW.skip ?_ | refine AW.exit ?_ | refine AW.ret ?_); simp only [thenA_exit, inBlockA_exit, if_true, if_false, Nat.reduceEqDiff, thenA_normal, inBlockA_normal, reduceIte, thenA_ret, inBlockA_ret, endQ_ret, endR_ret, endG_ret, endQ_normal, endR_normal, endG_normal])))
            exact ⟨.tup [.int .i64 n.kids.length, .bool false], by simp [ares, aresL], tup2_pur pur_int pur_bool, by rw [e, hf]; rfl⟩
      · have h4' : (n.kind == 4) = false := by simpa using h4
        have e : slotS n st = none := by unfold slotS; rw [h1, if_neg (by omega), if_neg (by simp [h3]), if_neg h4]
        (repeat (first | with_reducible refine AW.seq ?_ | ((first | refine arun_kn 4 rfl (fun C hC => ?_) | refine arunD_kn 4 rfl (fun C hC => ?_)); (repeat ((conv => whnf); simp [h4', h3'])); refine hC _ ?_; clear hC C; simp only [List.drop, Nat.reduceAdd]) | ((first | refine arun_kn 1 rfl (fun C hC => ?_) | refine arunD_kn 1 rfl (fun C hC => ?_)); (repeat ((conv => whnf); simp [h4', h3'])); refine hC _ ?_; clear hC C; simp only [List.drop, Nat.reduceAdd]) | (refine arun_skip ?_ ?_; (focus (simp [awant, h4', h3']; done))) | (refine arun_c0 (hx := by (simp [h4', h3'] <;> fail)) (pk) ?_; rintro _ rfl) | (refine arunD_skip ?_ ?_; (focus (simp [awant, h4', h3']; done))) | (refine AW.regionK [] (fun K hK => ?_)) | (refine AW.regionDK [] (pcs [] []) (by kernel_rfl) (by kernel_rfl) (fun K hK => ?_)) | (refine AW.condT ?_ ?_; (focus (simp [aev, h4', h3']; done))) | (refine AW.condF ?_ ?_; (focus (simp [aev, h4', h3']; done))) | with_reducible refine AW.block ?_ | ((first | ((first | refine arun_nil ?_ | refine arunD_nil ?_); refine hK _ ?_; clear hK K) | refine AW.skip ?_ | refine AW.exit ?_ | refine AW.ret ?_); simp only [thenA_exit, inBlockA_exit, if_true, if_false, Nat.reduceEqDiff, thenA_normal, inBlockA_normal, reduceIte, thenA_ret, inBlockA_ret, endQ_ret, endR_ret, endG_ret, endQ_normal, endR_normal, endG_normal])))
        refine AW.loopS (fun (i : Nat) => mkSt (slots 0 62 [(1, .str st), (2, .ptr true 5 1 2 0 0), (7, .int .i64 i)]) [(2, ⟨true, 30, 5, [nodeL n]⟩)] [2] (rd0.map fun _ => 0)) (fun i => 0) (fun i => i = 0) 0 ?_ rfl ?_
        · rw [nodeL_eq]
          exact less_a
        · rintro i rfl
          rw [nodeL_eq]
          (repeat (first | with_reducible refine AW.seq ?_ | ((first | refine arun_kn 4 rfl (fun C hC => ?_) | refine arunD_kn 4 rfl (fun C hC => ?_)); (repeat ((conv => whnf); simp [h4'])); refine hC _ ?_; clear hC C; simp only [List.drop, Nat.reduceAdd]) | ((first | refine arun_kn 1 rfl (fun C hC => ?_) | refine arunD_kn 1 rfl (fun C hC => ?_)); (repeat ((conv => whnf); simp [h4'])); refine hC _ ?_; clear hC C; simp only [List.drop, Nat.reduceAdd]) | (refine arun_skip ?_ ?_; (focus (simp [awant, h4']; done))) | (refine arunD_skip ?_ ?_; (focus (simp [awant, h4']; done))) | (refine AW.regionK [] (fun K hK => ?_)) | (refine AW.regionDK [] (pcs [] []) (by kernel_rfl) (by kernel_rfl) (fun K hK => ?_)) | (refine AW.condT ?_ ?_; (focus (simp [aev, h4']; done))) | (refine AW.condF ?_ ?_; (focus (simp [aev, h4']; done))) | with_reducible refine AW.block ?_ | ((first | ((first | refine arun_nil ?_ | refine arunD_nil ?_); refine hK _ ?_; clear hK K) | refine AW.skip ?_ | refine AW.exit ?_ | refine AW.ret ?_); simp only [thenA_exit, inBlockA_exit, if_true, if_false, Nat.reduceEqDiff, thenA_normal, inBlockA_normal, reduceIte, thenA_ret, inBlockA_ret, endQ_ret, endR_ret, endG_ret, endQ_normal, endR_normal, endG_normal])))
          exact ⟨.tup [.int .i64 (-1), .bool false], by simp [ares, aresL], tup2_pur pur_int pur_bool, by rw [e]; rfl⟩
  · rw [h2] at pk
    have hk0 : (0 : Int) ≤ (k : Int) := by omega
    by_cases h4 : n.kind = 4
    · have e : slotS n st = some (k, true) := by unfold slotS; rw [h2, if_pos hk0, Int.toNat_natCast, decide_eq_true h4]
      (repeat (first | with_reducible refine AW.seq ?_ | ((first | refine arun_kn 4 rfl (fun C hC => ?_) | refine arunD_kn 4 rfl (fun C hC => ?_)); (repeat ((conv => whnf); simp [h4, hk0])); refine hC _ ?_; clear hC C; simp only [List.drop, Nat.reduceAdd]) | ((first | refine arun_kn 1 rfl (fun C hC => ?_) | refine arunD_kn 1 rfl (fun C hC => ?_)); (repeat ((conv => whnf); simp [h4, hk0])); refine hC _ ?_; clear hC C; simp only [List.drop, Nat.reduceAdd]) | (refine arun_skip ?_ ?_; (focus (simp [awant, h4, hk0]; done))) | (refine arun_c0 (hx := by (simp [h4, hk0] <;> fail)) (pk) ?_; rintro _ rfl) | (refine arunD_skip ?_ ?_; (focus (simp [awant, h4, hk0]; done))) | (refine AW.regionK [] (fun K hK => ?_)) | (refine AW.regionDK [] (pcs [] []) (by kernel_rfl) (by kernel_rfl) (fun K hK => ?_)) | (refine AW.condT ?_ ?_; (focus (simp [aev, h4, hk0]; done))) | (refine AW.condF ?_ ?_; (focus (simp [aev, h4, hk0]; done))) | with_reducible refine AW.block ?_ | ((first | ((first | refine arun_nil ?_ | refine arunD_nil ?_); refine hK _ ?_; clear hK K) | refine AW.skip ?_ | refine AW.exit ?_ | refine AW.ret ?_); simp only [thenA_exit, inBlockA_exit, if_true, if_false, Nat.reduceEqDiff, thenA_normal, inBlockA_normal, reduceIte, thenA_ret, inBlockA_ret, endQ_ret, endR_ret, endG_ret, endQ_normal, endR_normal, endG_normal])))
      exact ⟨.tup [.int .i64 k, .bool true], by simp [ares, aresL], tup2_pur pur_int pur_bool, by rw [e]; rfl⟩
    · have h4' : (n.kind == 4) = false := by simpa using h4
      have e : slotS n st = some (k, false) := by unfold slotS; rw [h2, if_pos hk0, Int.toNat_natCast, decide_eq_false h4]
      (repeat (first | with_reducible refine AW.seq ?_ | ((first | refine arun_kn 4 rfl (fun C hC => ?_) | refine arunD_kn 4 rfl (fun C hC => ?_)); (repeat ((conv => whnf); simp [h4, h4', hk0])); refine hC _ ?_; clear hC C; simp only [List.drop, Nat.reduceAdd]) | ((first | refine arun_kn 1 rfl (fun C hC => ?_) | refine arunD_kn 1 rfl (fun C hC => ?_)); (repeat ((conv => whnf); simp [h4, h4', hk0])); refine hC _ ?_; clear hC C; simp only [List.drop, Nat.reduceAdd]) | (refine arun_skip ?_ ?_; (focus (simp [awant, h4, h4', hk0]; done))) | (refine arun_c0 (hx := by (simp [h4, h4', hk0] <;> fail)) (pk) ?_; rintro _ rfl) | (refine arunD_skip ?_ ?_; (focus (simp [awant, h4, h4', hk0]; done))) | (refine AW.regionK [] (fun K hK => ?_)) | (refine AW.regionDK [] (pcs [] []) (by kernel_rfl) (by kernel_rfl) (fun K hK => ?_)) | (refine AW.condT ?_ ?_; (focus (simp [aev, h4, h4', hk0]; done))) | (refine AW.condF ?_ ?_; (focus (simp [aev, h4, h4', hk0]; done))) | with_reducible refine AW.block ?_ | ((first | ((first | refine arun_nil ?_ | refine arunD_nil ?_); refine hK _ ?_; clear hK K) | refine AW.skip ?_ | refine AW.exit ?_ | refine AW.ret ?_); simp only [thenA_exit, inBlockA_exit, if_true, if_false, Nat.reduceEqDiff, thenA_normal, inBlockA_normal, reduceIte, thenA_ret, inBlockA_ret, endQ_ret, endR_ret, endG_ret, endQ_normal, endR_normal, endG_normal])))
      exact ⟨.tup [.int .i64 k, .bool false], by simp [ares, aresL], tup2_pur pur_int pur_bool, by rw [e]; rfl⟩
theorem insKid_kids (n v : Nd) (i : Nat) (st : ByteArray) : (insKid n i st v).kids.map nodeL = (n.kids.map nodeL).take i ++ nodeL v :: (n.kids.map nodeL).drop i := by
  simp [insKid, insL, List.map_take, List.map_drop]
theorem insKid_names (n v : Nd) (i : Nat) (st : ByteArray) (h4 : n.kind = 4) : strsE (insKid n i st v).names = (strsE n.names).take i ++ [.str st] :: (strsE n.names).drop i := by
  simp [insKid, insL, h4, strsE, List.map_take, List.map_drop]
theorem insKid_klen {n v : Nd} {i : Nat} {st : ByteArray} (h : i ≤ n.kids.length) : (insKid n i st v).kids.length = i + (n.kids.length - i + 1) := by
  simp [insKid, insL]; omega
theorem ins3_pur (n : Nd) (ks : List Nd) : Pur (.tup [.agg [.int .i64 n.kind, .int .i64 0, .str ⟨#[]⟩, .view .tight 1 [], .view .loose 5 (ks.map nodeL)], .bool true]) := tup2_pur (pur_agg (by
  simp only [List.forall_mem_cons, List.not_mem_nil, false_implies, implies_true, and_true]
  exact ⟨pur_int, pur_int, pur_str, pur_view (by decide) (fun e he => by cases he), nodes_pur _ (by decide)⟩)) pur_bool
theorem ins3_wk {n v : Nd} {i : Nat} {st : ByteArray} (h : (insKid n i st v).names = []) : Wk (.tup [.agg [.int .i64 n.kind, .int .i64 0, .str ⟨#[]⟩, .view .tight 1 [], .view .loose 5 ((insKid n i st v).kids.map nodeL)], .bool true]) (optA (some (insKid n i st v))) := by
  rw [optA_eq]
  unfold optL
  dsimp only [Option.getD_some, Option.isSome_some]
  rw [h]
  exact tup2_wk' (Wk.agg (.cons (Wk.refl _) (.cons (Wk.refl _) (.cons (Wk.refl _) (.cons (Wk.nil (fun h => by cases h)) (.cons (Wk.refl _) .nil)))))) (Wk.refl _)
theorem addHereG_AC (n v : Nd) (st : ByteArray) (hn : Slt n) (hv : Sml v) : AC Try.prog 157 [nodeA n, .str st, nodeA v] 0 (fun r => r = optA (addK n st v)) := by
  have hs1 := hn.sml.names
  have hs2 := hn.sml.kids
  have psl := slotG_AC n st hn
  refine AC.weak ?_
  cases hs : slotS n st with
  | none =>
    have e : addK n st v = none := by unfold addK; rw [hs]; rfl
    rw [hs] at psl
    dsimp only [slotA] at psl
    unfold nodeA at psl ⊢
    rw [nodeL_eq] at psl
    rw [nodeL_eq n, nodeL_eq v]
    refine AC.of tab_ok mixed_ok Try.func157 (by rfl) (by kernel_rfl) ?_; rintro ⟨P, T, hT, hm, w0, S0, rd0, k0⟩ hP hTT; dsimp only at hP hTT; subst hP hTT; unfold initSt; rw [Try.ntmps157]
    (repeat (first | with_reducible refine AW.seq ?_ | ((first | refine arun_kn 4 rfl (fun C hC => ?_) | refine arunD_kn 4 rfl (fun C hC => ?_)); (repeat ((conv => whnf); simp)); refine hC _ ?_; clear hC C; simp only [List.drop, Nat.reduceAdd]) | ((first | refine arun_kn 1 rfl (fun C hC => ?_) | refine arunD_kn 1 rfl (fun C hC => ?_)); (repeat ((conv => whnf); simp)); refine hC _ ?_; clear hC C; simp only [List.drop, Nat.reduceAdd]) | (refine arun_skip ?_ ?_; (focus (simp [awant]; done))) | (refine arun_c0 (psl) ?_; rintro _ rfl) | (refine arunD_skip ?_ ?_; (focus (simp [awant]; done))) | (refine AW.regionK [] (fun K hK => ?_)) | (refine AW.regionDK [] (pcs [] []) (by kernel_rfl) (by kernel_rfl) (fun K hK => ?_)) | (refine AW.condT ?_ ?_; (focus (simp [aev]; done))) | (refine AW.condF ?_ ?_; (focus (simp [aev]; done))) | with_reducible refine AW.block ?_ | ((first | ((first | refine arun_nil ?_ | refine arunD_nil ?_); refine hK _ ?_; clear hK K) | refine AW.skip ?_ | refine AW.exit ?_ | refine AW.ret ?_); simp only [thenA_exit, inBlockA_exit, if_true, if_false, Nat.reduceEqDiff, thenA_normal, inBlockA_normal, reduceIte, thenA_ret, inBlockA_ret, endQ_ret, endR_ret, endG_ret, endQ_normal, endR_normal, endG_normal])))
    exact ⟨.tup [node0 0 0 ⟨#[]⟩, .bool false], by simp [node0, ares, aresL, upd, rowsOf_cons], none_end.1, _, none_end.2, by rw [e]; rfl⟩
  | some x =>
    obtain ⟨i, b⟩ := x
    have hlt := slotS_lt hn hs
    rw [hs] at psl
    dsimp only [slotA] at psl
    have hi0 : ¬ ((i : Int) < 0) := by omega
    cases b
    · obtain ⟨hk, hi⟩ := hlt.2 rfl
      have e : addK n st v = some (insKid n i st v) := by unfold addK; rw [hs]; rfl
      have pc := copyNode_AC n hn.sml .loose
      have pv := copyNode_AC v hv .loose
      unfold nodeT at pc pv
      rw [nodeTL_eq] at pc pv
      unfold nodeA at psl pc pv ⊢
      rw [nodeL_eq] at psl pc pv
      rw [nodeL_eq n, nodeL_eq v]
      have hl1 : ((n.kids.map nodeL).take i).length = i := by rw [List.length_take, List.length_map]; omega
      have hl2 : ((n.kids.map nodeL).drop i).length = n.kids.length - i := by rw [List.length_drop, List.length_map]
      have hb1 : i * 80 ≤ 140737488355328 := by omega
      have hb2 : i ≤ 140737488355328 := by omega
      have hb3 : (i + 1) * 80 ≤ 140737488355328 := by omega
      have hb4 : i + 1 ≤ 140737488355328 := by omega
      have hb5 : (i + 1 + (n.kids.length - i)) * 80 ≤ 140737488355328 := by omega
      have hb6 : i + 1 + (n.kids.length - i) ≤ 140737488355328 := by omega
      have htk1 : (n.kids.map nodeL).take n.kids.length = n.kids.map nodeL := List.take_of_length_le (by rw [List.length_map]; exact Nat.le_refl _)
      have hkl := insKid_kids n v i st
      rw [nodeL_eq v] at hkl
      have hkn := insKid_klen (v := v) (st := st) hi
      have q1 : (insKid n i st v).kind = n.kind := rfl
      have q2 : (insKid n i st v).num = 0 := rfl
      have q3 : (insKid n i st v).text = ⟨#[]⟩ := rfl
      refine AC.of tab_ok mixed_ok Try.func157 (by rfl) (by kernel_rfl) ?_; rintro ⟨P, T, hT, hm, w0, S0, rd0, k0⟩ hP hTT; dsimp only at hP hTT; subst hP hTT; unfold initSt; rw [Try.ntmps157]
      (repeat (first | with_reducible refine AW.seq ?_ | ((first | refine arun_kn 4 rfl (fun C hC => ?_) | refine arunD_kn 4 rfl (fun C hC => ?_)); (repeat ((conv => whnf); simp [hi0, hi, hl1, hl2, hb1, hb2, hb3, hb4, hb5, hb6, htk1])); refine hC _ ?_; clear hC C; simp only [List.drop, Nat.reduceAdd]) | ((first | refine arun_kn 1 rfl (fun C hC => ?_) | refine arunD_kn 1 rfl (fun C hC => ?_)); (repeat ((conv => whnf); simp [hi0, hi, hl1, hl2, hb1, hb2, hb3, hb4, hb5, hb6, htk1])); refine hC _ ?_; clear hC C; simp only [List.drop, Nat.reduceAdd]) | (refine arun_skip ?_ ?_; (focus (simp [awant, hi0, hi, hl1, hl2, hb1, hb2, hb3, hb4, hb5, hb6, htk1]; done))) | (refine arun_c0 (psl) ?_; rintro _ rfl) | (refine arun_c0 (pc) ?_; rintro _ rfl) | (refine arun_c0 (pv) ?_; rintro _ rfl) | (refine arunD_skip ?_ ?_; (focus (simp [awant, hi0, hi, hl1, hl2, hb1, hb2, hb3, hb4, hb5, hb6, htk1]; done))) | (refine arunD_c (0) (psl) ?_; rintro _ rfl; intro _) | (refine arunD_c (0) (pc) ?_; rintro _ rfl; intro _) | (refine arunD_c (0) (pv) ?_; rintro _ rfl; intro _) | (refine AW.regionK [] (fun K hK => ?_)) | (refine AW.regionDK [] (pcs [(7, 0, fun r => r = .agg [.int .i64 v.kind, .int .i64 v.num, .str v.text, .view .loose 1 (strsE v.names), .view .loose 5 (v.kids.map nodeL)])] []) (by kernel_rfl) (by kernel_rfl) (fun K hK => ?_)) | (refine AW.condT ?_ ?_; (focus (simp [aev, hi0, hi, hl1, hl2, hb1, hb2, hb3, hb4, hb5, hb6, htk1]; done))) | (refine AW.condF ?_ ?_; (focus (simp [aev, hi0, hi, hl1, hl2, hb1, hb2, hb3, hb4, hb5, hb6, htk1]; done))) | with_reducible refine AW.block ?_ | ((first | ((first | refine arun_nil ?_ | refine arunD_nil ?_); refine hK _ ?_; clear hK K) | refine AW.skip ?_ | refine AW.exit ?_ | refine AW.ret ?_); simp only [thenA_exit, inBlockA_exit, if_true, if_false, Nat.reduceEqDiff, thenA_normal, inBlockA_normal, reduceIte, thenA_ret, inBlockA_ret, endQ_ret, endR_ret, endG_ret, endQ_normal, endR_normal, endG_normal])))
      refine AW.hold 34 ?_
      rcases hk with h3 | h4
      · have q4 : (insKid n i st v).names = [] := by simp [insKid, h3]
        (repeat (first | with_reducible refine AW.seq ?_ | ((first | refine arun_kn 4 rfl (fun C hC => ?_) | refine arunD_kn 4 rfl (fun C hC => ?_)); (repeat ((conv => whnf); simp [h3, ASt.hold, upd, AV.subL, AV.sub, rowsOf_cons, Row.sub, hl1, hl2])); refine hC _ ?_; clear hC C; simp only [List.drop, Nat.reduceAdd]) | ((first | refine arun_kn 1 rfl (fun C hC => ?_) | refine arunD_kn 1 rfl (fun C hC => ?_)); (repeat ((conv => whnf); simp [h3, ASt.hold, upd, AV.subL, AV.sub, rowsOf_cons, Row.sub, hl1, hl2])); refine hC _ ?_; clear hC C; simp only [List.drop, Nat.reduceAdd]) | (refine arun_skip ?_ ?_; (focus (simp [awant, h3, ASt.hold, upd, AV.subL, AV.sub, rowsOf_cons, Row.sub, hl1, hl2]; done))) | (refine arunD_skip ?_ ?_; (focus (simp [awant, h3, ASt.hold, upd, AV.subL, AV.sub, rowsOf_cons, Row.sub, hl1, hl2]; done))) | (refine AW.regionK [] (fun K hK => ?_)) | (refine AW.regionDK [] (pcs [] []) (by kernel_rfl) (by kernel_rfl) (fun K hK => ?_)) | (refine AW.condT ?_ ?_; (focus (simp [aev, h3, ASt.hold, upd, AV.subL, AV.sub, rowsOf_cons, Row.sub, hl1, hl2]; done))) | (refine AW.condF ?_ ?_; (focus (simp [aev, h3, ASt.hold, upd, AV.subL, AV.sub, rowsOf_cons, Row.sub, hl1, hl2]; done))) | with_reducible refine AW.block ?_ | ((first | ((first | refine arun_nil ?_ | refine arunD_nil ?_); refine hK _ ?_; clear hK K) | refine AW.skip ?_ | refine AW.exit ?_ | refine AW.ret ?_); simp only [thenA_exit, inBlockA_exit, if_true, if_false, Nat.reduceEqDiff, thenA_normal, inBlockA_normal, reduceIte, thenA_ret, inBlockA_ret, endQ_ret, endR_ret, endG_ret, endQ_normal, endR_normal, endG_normal])))
        exact ⟨.tup [.agg [.int .i64 n.kind, .int .i64 0, .str ⟨#[]⟩, .view .tight 1 [], .view .loose 5 ((insKid n i st v).kids.map nodeL)], .bool true], by rw [hkl]; simp [ares, aresL, h3], ins3_pur n _, _, ins3_wk q4, by rw [e]⟩
      · have hl3 : ((strsE n.names).take i).length = i := by rw [List.length_take, strsE_len]; have := hn.map h4; omega
        have hl4 : ((strsE n.names).drop i).length = n.kids.length - i := by rw [List.length_drop, strsE_len]; have := hn.map h4; omega
        have hin : i ≤ n.names.length := by have := hn.map h4; omega
        have hb7 : i * 16 ≤ 140737488355328 := by omega
        have hb8 : (i + 1) * 16 ≤ 140737488355328 := by omega
        have hb9 : (i + 1 + (n.kids.length - i)) * 16 ≤ 140737488355328 := by omega
        have htk2 : (strsE n.names).take n.names.length = strsE n.names := List.take_of_length_le (by rw [strsE_len]; exact Nat.le_refl _)
        have hnn := insKid_names n v i st h4
        have hmin : min i n.kids.length = i := Nat.min_eq_left hi
        refine AW.condF (by simp [aev, ASt.hold, upd, AV.subL, AV.sub, h4]) ?_
        refine AW.skip ?_
        simp only [thenA_normal]
        repeat refine AW.seq ?_
        (refine AW.regionK [] (fun K hK => ?_); (repeat (refine arun_ks 4 rfl (fun C hC => ?_); (repeat ((conv => whnf); simp [hmin, ASt.hold, upd, AV.subL, AV.sub, rowsOf_cons, Row.sub, hin, hl3, strsE_len, hb7, hb8, hb2, hb4])); refine hC _ ?_; clear hC C; simp only [List.drop_succ_cons, List.drop_zero, List.drop_nil])); refine arun_nil ?_; refine hK _ ?_; clear hK K; simp only [thenA_normal, inBlockA_normal, endQ_normal, endR_normal])
        repeat refine AW.seq ?_
        (refine AW.regionK [] (fun K hK => ?_); (repeat (refine arun_ks 4 rfl (fun C hC => ?_); (repeat ((conv => whnf); simp [hmin, ASt.hold, upd, AV.subL, AV.sub, rowsOf_cons, Row.sub, hin, hl3, hl4, strsE_len, hb9, hb6, htk2])); refine hC _ ?_; clear hC C; simp only [List.drop_succ_cons, List.drop_zero, List.drop_nil])); refine arun_nil ?_; refine hK _ ?_; clear hK K; simp only [thenA_normal, inBlockA_normal, endQ_normal, endR_normal])
        refine AW.hold 58 ?_
        (repeat (first | with_reducible refine AW.seq ?_ | ((first | refine arun_kn 4 rfl (fun C hC => ?_) | refine arunD_kn 4 rfl (fun C hC => ?_)); (repeat ((conv => whnf); simp [h4, hmin, ASt.hold, upd, AV.subL, AV.sub, rowsOf_cons, Row.sub, hl1, hl2, hl3, hl4, strsE_len])); refine hC _ ?_; clear hC C; simp only [List.drop, Nat.reduceAdd]) | ((first | refine arun_kn 1 rfl (fun C hC => ?_) | refine arunD_kn 1 rfl (fun C hC => ?_)); (repeat ((conv => whnf); simp [h4, hmin, ASt.hold, upd, AV.subL, AV.sub, rowsOf_cons, Row.sub, hl1, hl2, hl3, hl4, strsE_len])); refine hC _ ?_; clear hC C; simp only [List.drop, Nat.reduceAdd]) | (refine arun_skip ?_ ?_; (focus (simp [awant, h4, hmin, ASt.hold, upd, AV.subL, AV.sub, rowsOf_cons, Row.sub, hl1, hl2, hl3, hl4, strsE_len]; done))) | (refine arunD_skip ?_ ?_; (focus (simp [awant, h4, hmin, ASt.hold, upd, AV.subL, AV.sub, rowsOf_cons, Row.sub, hl1, hl2, hl3, hl4, strsE_len]; done))) | (refine AW.regionK [] (fun K hK => ?_)) | (refine AW.regionDK [] (pcs [] []) (by kernel_rfl) (by kernel_rfl) (fun K hK => ?_)) | (refine AW.condT ?_ ?_; (focus (simp [aev, h4, hmin, ASt.hold, upd, AV.subL, AV.sub, rowsOf_cons, Row.sub, hl1, hl2, hl3, hl4, strsE_len]; done))) | (refine AW.condF ?_ ?_; (focus (simp [aev, h4, hmin, ASt.hold, upd, AV.subL, AV.sub, rowsOf_cons, Row.sub, hl1, hl2, hl3, hl4, strsE_len]; done))) | with_reducible refine AW.block ?_ | ((first | ((first | refine arun_nil ?_ | refine arunD_nil ?_); refine hK _ ?_; clear hK K) | refine AW.skip ?_ | refine AW.exit ?_ | refine AW.ret ?_); simp only [thenA_exit, inBlockA_exit, if_true, if_false, Nat.reduceEqDiff, thenA_normal, inBlockA_normal, reduceIte, thenA_ret, inBlockA_ret, endQ_ret, endR_ret, endG_ret, endQ_normal, endR_normal, endG_normal])))
        exact ⟨optA (some (insKid n i st v)), by rw [optA_eq]; simp [optL, ares, aresL, q1, q2, q3, hkl, hnn, h4], optA_pur _, _, Wk.refl _, by rw [e]⟩
    · obtain ⟨h4, hi⟩ := hlt.1 rfl
      have e : addK n st v = some (setK n i v) := by unfold addK; rw [hs]; rfl
      have pw := withKid_AC n v i hn.sml hv hi
      unfold nodeA at psl pw ⊢
      rw [nodeL_eq] at psl
      rw [nodeL_eq n, nodeL_eq v] at pw
      rw [nodeL_eq n, nodeL_eq v]
      refine AC.of tab_ok mixed_ok Try.func157 (by rfl) (by kernel_rfl) ?_; rintro ⟨P, T, hT, hm, w0, S0, rd0, k0⟩ hP hTT; dsimp only at hP hTT; subst hP hTT; unfold initSt; rw [Try.ntmps157]
      (repeat (first | with_reducible refine AW.seq ?_ | ((first | refine arun_kn 4 rfl (fun C hC => ?_) | refine arunD_kn 4 rfl (fun C hC => ?_)); (repeat ((conv => whnf); simp [hi0])); refine hC _ ?_; clear hC C; simp only [List.drop, Nat.reduceAdd]) | ((first | refine arun_kn 1 rfl (fun C hC => ?_) | refine arunD_kn 1 rfl (fun C hC => ?_)); (repeat ((conv => whnf); simp [hi0])); refine hC _ ?_; clear hC C; simp only [List.drop, Nat.reduceAdd]) | (refine arun_skip ?_ ?_; (focus (simp [awant, hi0]; done))) | (refine arun_c0 (psl) ?_; rintro _ rfl) | (refine arun_c0 (pw) ?_; rintro _ rfl) | (refine arunD_skip ?_ ?_; (focus (simp [awant, hi0]; done))) | (refine AW.regionK [] (fun K hK => ?_)) | (refine AW.regionDK [] (pcs [] []) (by kernel_rfl) (by kernel_rfl) (fun K hK => ?_)) | (refine AW.condT ?_ ?_; (focus (simp [aev, hi0]; done))) | (refine AW.condF ?_ ?_; (focus (simp [aev, hi0]; done))) | with_reducible refine AW.block ?_ | ((first | ((first | refine arun_nil ?_ | refine arunD_nil ?_); refine hK _ ?_; clear hK K) | refine AW.skip ?_ | refine AW.exit ?_ | refine AW.ret ?_); simp only [thenA_exit, inBlockA_exit, if_true, if_false, Nat.reduceEqDiff, thenA_normal, inBlockA_normal, reduceIte, thenA_ret, inBlockA_ret, endQ_ret, endR_ret, endG_ret, endQ_normal, endR_normal, endG_normal])))
      exact ⟨.tup [nodeA (setK n i v), .bool true], by simp [setK, ares, aresL, upd, rowsOf_cons], tup2_pur (node_pur _) pur_bool, _, Wk.refl _, by rw [e]; rfl⟩
end Go.Proofs.Ytgfnmhfdmmnaoaa.Eng
-- EV: rows
namespace Go.Proofs.Ytgfnmhfdmmnaoaa.Eng
open Go Go.RowKit
attribute [local simp] big size_mk ASt.pay Option.map_map Function.comp_def awant aop acall ado aev ofVal ofVal0 ASt.put ASt.add ASt.turn ASt.kill abox aalloc astore aload aloadD astoreD idOf ASt.at cellsTo afieldAddr afield aindexAddr aindex alen abin aint acmp astr aun apick aextract anil aslice abound abuild afill abuildSlice asCells aps avCells over upd aappend asrc amax amin aconv mkSt slots rowsOf_cons rowsOf_nil usedOf_cons usedOf_nil ZK.av List.replicate ASt.back ASt.addL ASt.killL nodeA nodeT nodeTL_eq nodeL_eq strsE_get strsE_len intsE_get intsE_len strsE_at intsE_at nodeN namesRow nodeO kidsRow tab2 tab3 tab4 tab5 tab6 tab7 tab8 tab9 tab10 tab11 tab12 tab13 tab14 tab15 tab16 tab17 tab18 tab19 tab21 tab22 tab23 tab24 tab25 tab26 tab27 tab28 tab29 tab30 tab39 tab40 tab41 tab42 tab43 tab47 tab48 tab55 tab56 tab57 tab60 tab61 tab62 tab73 tab74 tab75 tab85 tab92 tab115 tab116 tab143 tab144 tab145 tab154 tab155 tab170 tab175 tab182 tab197 tab198 tab203 tab204 tab205 tab207 tab208 tab209
end Go.Proofs.Ytgfnmhfdmmnaoaa.Eng
-- EV: rows skip
namespace Go.Proofs.Ytgfnmhfdmmnaoaa.Eng
open Go Go.RowKit
attribute [local simp] big size_mk ASt.pay Option.map_map Function.comp_def awant aop acall ado aev ofVal ofVal0 ASt.put ASt.add ASt.turn ASt.kill abox aalloc astore aload aloadD astoreD idOf ASt.at cellsTo afieldAddr afield aindexAddr aindex alen abin aint acmp astr aun apick aextract anil aslice abound abuild afill abuildSlice asCells aps avCells over upd aappend asrc amax amin aconv mkSt slots rowsOf_cons rowsOf_nil usedOf_cons usedOf_nil ZK.av List.replicate ASt.back ASt.addL ASt.killL nodeA nodeT nodeTL_eq nodeL_eq strsE_get strsE_len intsE_get intsE_len strsE_at intsE_at nodeN namesRow nodeO kidsRow tab2 tab3 tab4 tab5 tab6 tab7 tab8 tab9 tab10 tab11 tab12 tab13 tab14 tab15 tab16 tab17 tab18 tab19 tab21 tab22 tab23 tab24 tab25 tab26 tab27 tab28 tab29 tab30 tab39 tab40 tab41 tab42 tab43 tab47 tab48 tab55 tab56 tab57 tab60 tab61 tab62 tab73 tab74 tab75 tab85 tab92 tab115 tab116 tab143 tab144 tab145 tab154 tab155 tab170 tab175 tab182 tab197 tab198 tab203 tab204 tab205 tab207 tab208 tab209
theorem MapW.slt {r : Nd} (h : MapW r) (hs : Sml r) : Slt r := ⟨fun _ => h.len, (fun h3 => by rw [h.kd] at h3; cases h3), hs⟩
theorem place_w {r : Nd} (h : MapW r) (st : ByteArray) : placeI r st = if mem r.names st then (lbound r.names st : Int) else -1 := by
  have hl := h.len
  rcases placeI_cases r st with ⟨h1, h2⟩ | ⟨j, h1, h2, h3⟩
  · have : mem r.names st = false := mem_no (fun hm => by
      obtain ⟨i, hi, rfl⟩ := List.getElem_of_mem hm
      have := h2 i (by omega)
      rw [hit_map h.kd hi, eqs_iff.2 rfl] at this
      cases this)
    rw [this, h1]; rfl
  · have hj : j < r.names.length := by omega
    rw [hit_map h.kd hj, eqs_iff] at h3
    subst h3
    rw [lb_at h.asc hj, mem_iff.2 (List.getElem_mem hj), h2]; rfl
theorem nmI_spec (st : ByteArray) : ∀ l : List ByteArray, (∀ t (h : t < l.length), t < nmI st l → lts st l[t] = false) ∧ (∀ h : nmI st l < l.length, lts st l[nmI st l] = true)
  | [] => ⟨fun t h => by simp at h, fun h => by simp [nmI] at h⟩
  | x :: xs => by
    obtain ⟨i1, i2⟩ := nmI_spec st xs
    cases hx : lts st x
    · have e : nmI st (x :: xs) = nmI st xs + 1 := by rw [nmI, hx]; rfl
      rw [e]
      refine ⟨fun t h ht => ?_, fun h => ?_⟩
      · cases t with
        | zero => exact hx
        | succ t => exact i1 t (by simpa using h) (by omega)
      · simpa using i2 (by simpa using h)
    · have e : nmI st (x :: xs) = 0 := by rw [nmI, hx]; rfl
      rw [e]
      exact ⟨fun t _ ht => by omega, fun _ => hx⟩
theorem nmI_lb {xs : List ByteArray} {st : ByteArray} (ha : Asc xs) (hm : mem xs st = false) : nmI st xs = lbound xs st := by
  obtain ⟨h1, h2⟩ := nmI_spec st xs
  refine (lb_of (nmI_le st xs) (fun t ht htk => ?_) (fun t ht hkt => ?_)).symm
  · have := h1 t ht htk
    rw [lts_lt] at this
    exact lt_tot this (fun e => by
      have : mem xs st = true := mem_iff.2 (e ▸ List.getElem_mem ht)
      rw [hm] at this; cases this)
  · have hlt : nmI st xs < xs.length := by omega
    have h3 := h2 hlt
    rw [lts_lt] at h3
    have h4 : lt st xs[t] = true := by
      rcases Nat.eq_or_lt_of_le hkt with e | hl
      · subst e; exact h3
      · exact bl_trans _ _ _ h3 (ha _ t hlt ht hl)
    exact bl_asymm _ _ h4
theorem addK_w {r v : Nd} (h : MapW r) {nm : ByteArray} (hm : mem r.names nm = false) : addK r nm v = some (putK r nm v) := by
  unfold addK slotS
  rw [place_w h, hm, if_neg (by simp), if_neg (fun h3 => by have := h3.1; have := h.kd; omega), if_pos h.kd, putK_no hm, nmI_lb h.asc hm, h.nz, h.tz]
  simp [insKid, insL, h.kd]
theorem optL_noid (m : Nd) : NoId (.tup [.agg [.int .i64 m.kind, .int .i64 m.num, .str m.text, .view .loose 1 (strsE m.names), .view .loose 5 (m.kids.map nodeL)], .bool true]) := optL_in (some m)
theorem nodeA_noid (y : Nd) : NoId (.agg [.int .i64 y.kind, .int .i64 y.num, .str y.text, .view .loose 1 (strsE y.names), .view .loose 5 (y.kids.map nodeL)]) := by
  have h := node_in (U := fun _ => false) y
  unfold nodeA at h
  rw [nodeL_eq] at h
  exact h
end Go.Proofs.Ytgfnmhfdmmnaoaa.Eng
-- EV: rows skip
namespace Go.Proofs.Ytgfnmhfdmmnaoaa.Eng
open Go Go.RowKit
attribute [local simp] big size_mk ASt.pay Option.map_map Function.comp_def awant aop acall ado aev ofVal ofVal0 ASt.put ASt.add ASt.turn ASt.kill abox aalloc astore aload aloadD astoreD idOf ASt.at cellsTo afieldAddr afield aindexAddr aindex alen abin aint acmp astr aun apick aextract anil aslice abound abuild afill abuildSlice asCells aps avCells over upd aappend asrc amax amin aconv mkSt slots rowsOf_cons rowsOf_nil usedOf_cons usedOf_nil ZK.av List.replicate ASt.back ASt.addL ASt.killL nodeA nodeT nodeTL_eq nodeL_eq strsE_get strsE_len intsE_get intsE_len strsE_at intsE_at nodeN namesRow nodeO kidsRow tab2 tab3 tab4 tab5 tab6 tab7 tab8 tab9 tab10 tab11 tab12 tab13 tab14 tab15 tab16 tab17 tab18 tab19 tab21 tab22 tab23 tab24 tab25 tab26 tab27 tab28 tab29 tab30 tab39 tab40 tab41 tab42 tab43 tab47 tab48 tab55 tab56 tab57 tab60 tab61 tab62 tab73 tab74 tab75 tab85 tab92 tab115 tab116 tab143 tab144 tab145 tab154 tab155 tab170 tab175 tab182 tab197 tab198 tab203 tab204 tab205 tab207 tab208 tab209
theorem map_w {b : Nd} (h : Shp b) (h4 : b.kind = 4) : MapW b := by
  have := base_w h
  unfold baseM at this
  rwa [if_pos h4] at this
theorem mergeFor_step (a b : Nd) (ha : Shp a) (hb : Shp b) (ih : ∀ k ∈ a.kids, ∀ m, Shp m → AC Try.prog 125 [nodeA k, nodeA m] 0 (fun r => r = nodeA (pb k m))) : AC Try.prog 125 [nodeA a, nodeA b] 0 (fun r => r = nodeA (pb a b)) := by
  unfold nodeA
  rw [nodeL_eq a, nodeL_eq b]
  refine AC.of tab_ok mixed_ok Try.func125 (by rfl) (by kernel_rfl) ?_; rintro ⟨P, T, hT, hm, w0, S0, rd0, k0⟩ hP hTT; dsimp only at hP hTT; subst hP hTT; unfold initSt; rw [Try.ntmps125]
  by_cases h4 : a.kind = 4 ∧ b.kind = 4
  rotate_left
  · have hpc := copyNode_AC b hb.sml .loose
    unfold nodeT at hpc
    unfold nodeA at hpc
    rw [nodeTL_eq, nodeL_eq b] at hpc
    rw [pb_no h4]
    cases hka : (a.kind != 4)
    · have hkb : (b.kind != 4) = true := by
        have h1 : a.kind = 4 := by simpa using hka
        have : ¬ b.kind = 4 := fun h => h4 ⟨h1, h⟩
        simpa using this
      (repeat (first | with_reducible refine AW.seq ?_ | ((first | refine arun_kn 4 rfl (fun C hC => ?_) | refine arunD_kn 4 rfl (fun C hC => ?_)); (repeat ((conv => whnf); simp [hka, hkb])); refine hC _ ?_; clear hC C; simp only [List.drop, Nat.reduceAdd]) | ((first | refine arun_kn 1 rfl (fun C hC => ?_) | refine arunD_kn 1 rfl (fun C hC => ?_)); (repeat ((conv => whnf); simp [hka, hkb])); refine hC _ ?_; clear hC C; simp only [List.drop, Nat.reduceAdd]) | (refine arun_skip ?_ ?_; (focus (simp [awant, hka, hkb]; done))) | (refine arun_c0 (hpc) ?_; rintro _ rfl) | (refine arunD_skip ?_ ?_; (focus (simp [awant, hka, hkb]; done))) | (refine AW.regionK [] (fun K hK => ?_)) | (refine AW.regionDK [] (pcs [] []) (by kernel_rfl) (by kernel_rfl) (fun K hK => ?_)) | (refine AW.condT ?_ ?_; (focus (simp [aev, hka, hkb]; done))) | (refine AW.condF ?_ ?_; (focus (simp [aev, hka, hkb]; done))) | with_reducible refine AW.block ?_ | ((first | ((first | refine arun_nil ?_ | refine arunD_nil ?_); refine hK _ ?_; clear hK K) | refine AW.skip ?_ | refine AW.exit ?_ | refine AW.ret ?_); simp only [thenA_exit, inBlockA_exit, if_true, if_false, Nat.reduceEqDiff, thenA_normal, inBlockA_normal, reduceIte, thenA_ret, inBlockA_ret, endQ_ret, endR_ret, endG_ret, endQ_normal, endR_normal, endG_normal])))
      exact ⟨nodeA b, by simp [ares, aresL, upd, rowsOf_cons], node_pur b, rfl⟩
    · (repeat (first | with_reducible refine AW.seq ?_ | ((first | refine arun_kn 4 rfl (fun C hC => ?_) | refine arunD_kn 4 rfl (fun C hC => ?_)); (repeat ((conv => whnf); simp [hka])); refine hC _ ?_; clear hC C; simp only [List.drop, Nat.reduceAdd]) | ((first | refine arun_kn 1 rfl (fun C hC => ?_) | refine arunD_kn 1 rfl (fun C hC => ?_)); (repeat ((conv => whnf); simp [hka])); refine hC _ ?_; clear hC C; simp only [List.drop, Nat.reduceAdd]) | (refine arun_skip ?_ ?_; (focus (simp [awant, hka]; done))) | (refine arun_c0 (hpc) ?_; rintro _ rfl) | (refine arunD_skip ?_ ?_; (focus (simp [awant, hka]; done))) | (refine AW.regionK [] (fun K hK => ?_)) | (refine AW.regionDK [] (pcs [] []) (by kernel_rfl) (by kernel_rfl) (fun K hK => ?_)) | (refine AW.condT ?_ ?_; (focus (simp [aev, hka]; done))) | (refine AW.condF ?_ ?_; (focus (simp [aev, hka]; done))) | with_reducible refine AW.block ?_ | ((first | ((first | refine arun_nil ?_ | refine arunD_nil ?_); refine hK _ ?_; clear hK K) | refine AW.skip ?_ | refine AW.exit ?_ | refine AW.ret ?_); simp only [thenA_exit, inBlockA_exit, if_true, if_false, Nat.reduceEqDiff, thenA_normal, inBlockA_normal, reduceIte, thenA_ret, inBlockA_ret, endQ_ret, endR_ret, endG_ret, endQ_normal, endR_normal, endG_normal])))
      exact ⟨nodeA b, by simp [ares, aresL, upd, rowsOf_cons], node_pur b, rfl⟩
  obtain ⟨h4a, h4b⟩ := h4
  have hka : (a.kind != 4) = false := by simp [h4a]
  have hkb : (b.kind != 4) = false := by simp [h4b]
  have h6 := ha.kids
  have h6b := hb.kids
  have hla := (ha.map h4a).2
  have hlb := (hb.map h4b).2
  have hwa := map_w ha h4a
  have hwb := map_w hb h4b
  rw [pb_map h4a h4b]
  obtain ⟨R1, hR1⟩ : ∃ R1, R1 = pbL a.names a.kids b emptyM := ⟨_, rfl⟩
  rw [← hR1]
  have hM1 : MidB a b 0 R1 := by
    rw [hR1]
    exact (pb_loopA (b := b) ha h4a (MidA a) (MidA.start a) (fun i hi hk r h => h.nextS ha hb h4b hi hk)).toB h6
  (repeat (first | with_reducible refine AW.seq ?_ | ((first | refine arun_kn 4 rfl (fun C hC => ?_) | refine arunD_kn 4 rfl (fun C hC => ?_)); (repeat ((conv => whnf); simp [hka, hkb])); refine hC _ ?_; clear hC C; simp only [List.drop, Nat.reduceAdd]) | ((first | refine arun_kn 1 rfl (fun C hC => ?_) | refine arunD_kn 1 rfl (fun C hC => ?_)); (repeat ((conv => whnf); simp [hka, hkb])); refine hC _ ?_; clear hC C; simp only [List.drop, Nat.reduceAdd]) | (refine arun_skip ?_ ?_; (focus (simp [awant, hka, hkb]; done))) | (refine arunD_skip ?_ ?_; (focus (simp [awant, hka, hkb]; done))) | (refine AW.regionK [] (fun K hK => ?_)) | (refine AW.regionDK [] (pcs [] []) (by kernel_rfl) (by kernel_rfl) (fun K hK => ?_)) | (refine AW.condT ?_ ?_; (focus (simp [aev, hka, hkb]; done))) | (refine AW.condF ?_ ?_; (focus (simp [aev, hka, hkb]; done))) | with_reducible refine AW.block ?_ | ((first | ((first | refine arun_nil ?_ | refine arunD_nil ?_); refine hK _ ?_; clear hK K) | refine AW.skip ?_ | refine AW.exit ?_ | refine AW.ret ?_); simp only [thenA_exit, inBlockA_exit, if_true, if_false, Nat.reduceEqDiff, thenA_normal, inBlockA_normal, reduceIte, thenA_ret, inBlockA_ret, endQ_ret, endR_ret, endG_ret, endQ_normal, endR_normal, endG_normal])))
  refine AW.wkB 5 3 (.view .loose 1 []) (Wk.nil (fun h => by cases h)) (by simp [upd]; rfl) rfl rfl ?_
  simp only [ASt.wkB]
  refine AW.wkB 5 4 (.view .loose 5 []) (Wk.nil (fun h => by cases h)) (by simp [upd]; rfl) rfl rfl ?_
  simp only [ASt.wkB]
  refine AW.loopS (fun (x : Nat × Nd) => mkSt (slots 0 115 [(2, .ptr true 5 1 2 0 0), (3, .ptr true 5 1 3 0 0), (4, .ptr true 5 1 4 0 0), (5, .ptr true 5 1 5 0 0), (6, .int .i64 x.1)]) [(2, ⟨true, 30, 5, [[.int .i64 a.kind, .int .i64 a.num, .str a.text, .view .loose 1 (strsE a.names), .view .loose 5 (a.kids.map nodeL)]]⟩), (3, ⟨true, 30, 5, [[.int .i64 b.kind, .int .i64 b.num, .str b.text, .view .loose 1 (strsE b.names), .view .loose 5 (b.kids.map nodeL)]]⟩), (4, ⟨true, 30, 5, [zeroN]⟩), (5, ⟨true, 30, 5, [nodeL x.2]⟩)] [2, 3, 4, 5] (rd0.map fun _ => 0)) (fun x => a.names.length - x.1) (fun x => x.1 ≤ a.names.length ∧ MidA a x.1 x.2 ∧ pbL (a.names.drop x.1) (a.kids.drop x.1) b x.2 = R1) (0, emptyM) ?_ ⟨Nat.zero_le _, MidA.start a, by rw [hR1]; rfl⟩ ?_
  · dsimp only
    rw [nodeL_eq emptyM]
    have hs0 : strsE emptyM.names = [] := rfl
    have hs1 : emptyM.kids.map nodeL = [] := rfl
    have hs2 : emptyM.kind = 4 := rfl
    have hs3 : emptyM.num = 0 := rfl
    have hs4 : emptyM.text = ⟨#[]⟩ := rfl
    exact (less_of (by simp [lessL, mkSt, slots, zeroN, hs0, hs1, hs2, hs3, hs4, nodeN, namesRow, nodeO, kidsRow]) (by simp [upd, mkSt, rowsOf_cons, zeroN, hs0, hs1, hs2, hs3, hs4, nodeN, namesRow, nodeO, kidsRow]) (by simp [upd, mkSt, usedOf_cons, zeroN, hs0, hs1, hs2, hs3, hs4, nodeN, namesRow, nodeO, kidsRow]) (by first | exact rd_less (by omega) | simp [mkSt, zeroN, hs0, hs1, hs2, hs3, hs4, nodeN, namesRow, nodeO, kidsRow]) (by simp [slots, in_any, in_int, in_bool, in_str, in_ptr, in_own, in_agg, in_vnil, in_rdr, usedOf_cons, usedOf_nil, strs_in, ints_in, nodes_in, in_tup, zeroN, hs0, hs1, hs2, hs3, hs4, nodeN, namesRow, nodeO, kidsRow]) (by simp only [List.forall_mem_cons, List.not_mem_nil, false_implies, implies_true, and_true, true_and, zeroN, hs0, hs1, hs2, hs3, hs4, nodeN, namesRow, nodeO, kidsRow]; (repeat (first | with_reducible exact trivial | with_reducible refine And.intro ?_ ?_ | with_reducible exact in_int | with_reducible exact in_str | with_reducible exact in_bool | with_reducible exact strs_in _ | with_reducible exact nodes_in _ | with_reducible exact items_in _ | with_reducible exact in_vnil | with_reducible exact in_any | exact hin _ | with_reducible refine take_in ?_ | with_reducible exact strsE_in _ | with_reducible exact nodesE_in _ | with_reducible exact nodeL_in _ | with_reducible exact itemsE_in _ | with_reducible exact itemL_in _ | with_reducible refine app_in ?_ ?_ | with_reducible refine sing_in ?_ | (focus (simp [in_any, in_int, in_bool, in_str, in_ptr, in_own, in_agg, in_vnil, in_rdr, usedOf_cons, usedOf_nil, strs_in, ints_in, nodes_in, zeroN, hs0, hs1, hs2, hs3, hs4, nodeN, namesRow, nodeO, kidsRow]; done)))); done))
  rintro ⟨i, r⟩ ⟨hi, hm, hf⟩
  dsimp only at hi hm hf ⊢
  rw [nodeL_eq r]
  by_cases hlt : i < a.names.length
  · have hk : i < a.kids.length := by omega
    have hwi : IntKind.i64.wrap ((i : Int) + 1) = ((i + 1 : Nat) : Int) := by rw [i64_nat (by omega) (by omega)]; simp
    have hnext := hm.nextS ha hb h4b hlt hk
    rw [pbL_step hlt hk] at hf
    have hsr : Sml r := hm.smlR (by omega)
    have hfr := hm.free ha h4a hlt
    have pk := place_ok .loose b a.names[i] (hwb.slt hb.sml).plc
    rw [place_w hwb] at pk
    unfold nodeT at pk
    rw [nodeTL_eq] at pk
    have hcb := node_clo b
    unfold nodeA at hcb
    rw [nodeL_eq b] at hcb
    cases hmm : mem b.names a.names[i]
    · rw [hmm, if_neg (by simp)] at pk
      have hst : stA b r a.names[i] a.kids[i] = putK r a.names[i] Nd.zero := by unfold stA; rw [hmm]; rfl
      rw [hst] at hf hnext
      have hah := addHereG_AC r Nd.zero a.names[i] (hm.w.slt hsr) shp_zero.sml
      rw [addK_w hm.w hfr, optA_eq] at hah
      replace hah := AC.arg hah (bs := [nodeA r, .str a.names[i], node0 0 0 ⟨#[]⟩]) (.cons (Wk.refl _) (.cons (Wk.refl _) (.cons zero_wk .nil)))
      have hcz : Clo (.agg [.int .i64 0, .int .i64 0, .str ⟨#[]⟩, .view .tight 0 [], .view .tight 0 []]) := (node0_pur 0 0 ⟨#[]⟩).clo
      generalize putK r a.names[i] Nd.zero = m at *
      unfold nodeA node0 at hah
      rw [nodeL_eq r] at hah
      (repeat (first | with_reducible refine AW.seq ?_ | ((first | refine arun_kn 4 rfl (fun C hC => ?_) | refine arunD_kn 4 rfl (fun C hC => ?_)); (repeat ((conv => whnf); simp [hlt, hk, hwi, strsE_len])); refine hC _ ?_; clear hC C; simp only [List.drop, Nat.reduceAdd]) | ((first | refine arun_kn 1 rfl (fun C hC => ?_) | refine arunD_kn 1 rfl (fun C hC => ?_)); (repeat ((conv => whnf); simp [hlt, hk, hwi, strsE_len])); refine hC _ ?_; clear hC C; simp only [List.drop, Nat.reduceAdd]) | (refine arun_skip ?_ ?_; (focus (simp [awant, hlt, hk, hwi, strsE_len]; done))) | (refine arunD_skip ?_ ?_; (focus (simp [awant, hlt, hk, hwi, strsE_len]; done))) | (refine AW.regionK [] (fun K hK => ?_)) | (refine AW.condT ?_ ?_; (focus (simp [aev, hlt, hk, hwi, strsE_len]; done))) | (refine AW.condF ?_ ?_; (focus (simp [aev, hlt, hk, hwi, strsE_len]; done))) | with_reducible refine AW.block ?_ | ((first | ((first | refine arun_nil ?_ | refine arunD_nil ?_); refine hK _ ?_; clear hK K) | refine AW.skip ?_ | refine AW.exit ?_ | refine AW.ret ?_); simp only [thenA_exit, inBlockA_exit, if_true, if_false, Nat.reduceEqDiff, thenA_normal, inBlockA_normal, reduceIte, thenA_ret, inBlockA_ret, endQ_ret, endR_ret, endG_ret, endQ_normal, endR_normal, endG_normal])))
      refine AW.regionDK [] (pcs [(6, 0, fun r => r = .int .i64 (-1))] []) (by kernel_rfl) (by kernel_rfl) (fun K hK => ?_)
      (repeat (first | with_reducible refine AW.seq ?_ | ((first | refine arun_kn 4 rfl (fun C hC => ?_) | refine arunD_kn 4 rfl (fun C hC => ?_)); (repeat ((conv => whnf); simp [hlt, hk, hwi, strsE_len])); refine hC _ ?_; clear hC C; simp only [List.drop, Nat.reduceAdd]) | ((first | refine arun_kn 1 rfl (fun C hC => ?_) | refine arunD_kn 1 rfl (fun C hC => ?_)); (repeat ((conv => whnf); simp [hlt, hk, hwi, strsE_len])); refine hC _ ?_; clear hC C; simp only [List.drop, Nat.reduceAdd]) | (refine arun_skip ?_ ?_; (focus (simp [awant, hlt, hk, hwi, strsE_len]; done))) | (refine arun_c0 (pk) ?_; rintro _ rfl) | (refine arunD_skip ?_ ?_; (focus (simp [awant, hlt, hk, hwi, strsE_len]; done))) | (refine arunD_c (0) (pk) ?_; rintro _ rfl; intro _) | (refine AW.regionK [] (fun K hK => ?_)) | (refine AW.condT ?_ ?_; (focus (simp [aev, hlt, hk, hwi, strsE_len]; done))) | (refine AW.condF ?_ ?_; (focus (simp [aev, hlt, hk, hwi, strsE_len]; done))) | with_reducible refine AW.block ?_ | ((first | ((first | refine arun_nil ?_ | refine arunD_nil ?_); refine hK _ ?_; clear hK K) | refine AW.skip ?_ | refine AW.exit ?_ | refine AW.ret ?_); simp only [thenA_exit, inBlockA_exit, if_true, if_false, Nat.reduceEqDiff, thenA_normal, inBlockA_normal, reduceIte, thenA_ret, inBlockA_ret, endQ_ret, endR_ret, endG_ret, endQ_normal, endR_normal, endG_normal])))
      refine AW.regionDK [] (pcs [(7, 0, fun r => r = optL (some m))] []) (by kernel_rfl) (by kernel_rfl) (fun K hK => ?_)
      (repeat (first | with_reducible refine AW.seq ?_ | ((first | refine arun_kn 4 rfl (fun C hC => ?_) | refine arunD_kn 4 rfl (fun C hC => ?_)); (repeat ((conv => whnf); simp [hlt, hk, hwi, strsE_len, optL])); refine hC _ ?_; clear hC C; simp only [List.drop, Nat.reduceAdd]) | ((first | refine arun_kn 1 rfl (fun C hC => ?_) | refine arunD_kn 1 rfl (fun C hC => ?_)); (repeat ((conv => whnf); simp [hlt, hk, hwi, strsE_len, optL])); refine hC _ ?_; clear hC C; simp only [List.drop, Nat.reduceAdd]) | (refine arun_skip ?_ ?_; (focus (simp [awant, hlt, hk, hwi, strsE_len, optL]; done))) | (refine arun_c0 (hah) ?_; rintro _ rfl) | (refine arunD_skip ?_ ?_; (focus (simp [awant, hlt, hk, hwi, strsE_len, optL]; done))) | (refine arunD_cE (0) (hah) (by exact ⟨_, rfl, optL_noid m⟩) ?_; rintro _ rfl; intro _) | (refine AW.regionK [] (fun K hK => ?_)) | (refine AW.regionDK [] (pcs [(7, 0, fun r => r = .int .i64 0)] []) (by kernel_rfl) (by kernel_rfl) (fun K hK => ?_)) | (refine AW.condT ?_ ?_; (focus (simp [aev, hlt, hk, hwi, strsE_len, optL]; done))) | (refine AW.condF ?_ ?_; (focus (simp [aev, hlt, hk, hwi, strsE_len, optL]; done))) | with_reducible refine AW.block ?_ | ((first | ((first | refine arun_nil ?_ | refine arunD_nil ?_); refine hK _ ?_; clear hK K) | refine AW.skip ?_ | refine AW.exit ?_ | refine AW.ret ?_); simp only [thenA_exit, inBlockA_exit, if_true, if_false, Nat.reduceEqDiff, thenA_normal, inBlockA_normal, reduceIte, thenA_ret, inBlockA_ret, endQ_ret, endR_ret, endG_ret, endQ_normal, endR_normal, endG_normal])))
      refine ⟨(i + 1, m), by dsimp only; omega, ⟨by dsimp only; omega, hnext, hf⟩, ?_⟩
      dsimp only
      rw [nodeL_eq m]
      exact (less_of (by simp [lessL, mkSt, slots, zeroN, nodeN, namesRow, nodeO, kidsRow]) (by simp [upd, mkSt, rowsOf_cons, zeroN, nodeN, namesRow, nodeO, kidsRow]) (by simp [upd, mkSt, usedOf_cons, zeroN, nodeN, namesRow, nodeO, kidsRow]) (by first | exact rd_less (by omega) | simp [mkSt, zeroN, nodeN, namesRow, nodeO, kidsRow]) (by simp [slots, in_any, in_int, in_bool, in_str, in_ptr, in_own, in_agg, in_vnil, in_rdr, usedOf_cons, usedOf_nil, strs_in, ints_in, nodes_in, in_tup, zeroN, nodeN, namesRow, nodeO, kidsRow]) (by simp only [List.forall_mem_cons, List.not_mem_nil, false_implies, implies_true, and_true, true_and, zeroN, nodeN, namesRow, nodeO, kidsRow]; (repeat (first | with_reducible exact trivial | with_reducible refine And.intro ?_ ?_ | with_reducible exact in_int | with_reducible exact in_str | with_reducible exact in_bool | with_reducible exact strs_in _ | with_reducible exact nodes_in _ | with_reducible exact items_in _ | with_reducible exact in_vnil | with_reducible exact in_any | exact hin _ | with_reducible refine take_in ?_ | with_reducible exact strsE_in _ | with_reducible exact nodesE_in _ | with_reducible exact nodeL_in _ | with_reducible exact itemsE_in _ | with_reducible exact itemL_in _ | with_reducible refine app_in ?_ ?_ | with_reducible refine sing_in ?_ | (focus (simp [in_any, in_int, in_bool, in_str, in_ptr, in_own, in_agg, in_vnil, in_rdr, usedOf_cons, usedOf_nil, strs_in, ints_in, nodes_in, zeroN, nodeN, namesRow, nodeO, kidsRow]; done)))); done))
    · rw [hmm, if_pos rfl] at pk
      have hjl := lbn_lt hwb.asc hmm
      have hjk : lbound b.names a.names[i] < b.kids.length := by omega
      have hko := kidOf_yes hmm hjk
      have hks := kid_shp hb h4b hmm
      have hsk := ha.kid (List.getElem_mem hk)
      have psm := specSame_AC a.kids[i] (kidOf b a.names[i]) hsk hks
      have hmg := ih _ (List.getElem_mem hk) _ hks
      have hsy := pb_sml _ hsk _ hks
      have hj0 : ¬ ((lbound b.names a.names[i] : Int) < 0) := by omega
      have hcl1 := node_clo a.kids[i]
      have hcl2 := node_clo b.kids[lbound b.names a.names[i]]
      cases hc0 : cmpN a.kids[i] (kidOf b a.names[i]) == 0
      · rw [hc0] at psm
        have hst : stA b r a.names[i] a.kids[i] = putK r a.names[i] (pb a.kids[i] (kidOf b a.names[i])) := by unfold stA; rw [hmm, if_pos rfl, if_neg (by simpa using hc0)]
        rw [hst] at hf hnext
        have hah := addHereG_AC r (pb a.kids[i] (kidOf b a.names[i])) a.names[i] (hm.w.slt hsr) hsy
        rw [addK_w hm.w hfr, optA_eq] at hah
        generalize pb a.kids[i] (kidOf b a.names[i]) = y at *
        generalize putK r a.names[i] y = m at *
        rw [hko] at psm hmg
        unfold nodeA at psm hmg hcl1 hcl2 hah
        rw [nodeL_eq a.kids[i], nodeL_eq b.kids[lbound b.names a.names[i]]] at psm hmg
        rw [nodeL_eq] at hcl1 hcl2
        rw [nodeL_eq y] at hmg
        rw [nodeL_eq y, nodeL_eq r] at hah
        generalize lbound b.names a.names[i] = lb at *
        (repeat (first | with_reducible refine AW.seq ?_ | ((first | refine arun_kn 4 rfl (fun C hC => ?_) | refine arunD_kn 4 rfl (fun C hC => ?_)); (repeat ((conv => whnf); simp [hlt, hk, hwi, hjk, hj0, strsE_len])); refine hC _ ?_; clear hC C; simp only [List.drop, Nat.reduceAdd]) | ((first | refine arun_kn 1 rfl (fun C hC => ?_) | refine arunD_kn 1 rfl (fun C hC => ?_)); (repeat ((conv => whnf); simp [hlt, hk, hwi, hjk, hj0, strsE_len])); refine hC _ ?_; clear hC C; simp only [List.drop, Nat.reduceAdd]) | (refine arun_skip ?_ ?_; (focus (simp [awant, hlt, hk, hwi, hjk, hj0, strsE_len]; done))) | (refine arunD_skip ?_ ?_; (focus (simp [awant, hlt, hk, hwi, hjk, hj0, strsE_len]; done))) | (refine AW.regionK [] (fun K hK => ?_)) | (refine AW.condT ?_ ?_; (focus (simp [aev, hlt, hk, hwi, hjk, hj0, strsE_len]; done))) | (refine AW.condF ?_ ?_; (focus (simp [aev, hlt, hk, hwi, hjk, hj0, strsE_len]; done))) | with_reducible refine AW.block ?_ | ((first | ((first | refine arun_nil ?_ | refine arunD_nil ?_); refine hK _ ?_; clear hK K) | refine AW.skip ?_ | refine AW.exit ?_ | refine AW.ret ?_); simp only [thenA_exit, inBlockA_exit, if_true, if_false, Nat.reduceEqDiff, thenA_normal, inBlockA_normal, reduceIte, thenA_ret, inBlockA_ret, endQ_ret, endR_ret, endG_ret, endQ_normal, endR_normal, endG_normal])))
        refine AW.regionDK [] (pcs [(6, 0, fun r => r = .int .i64 (lb : Int))] []) (by kernel_rfl) (by kernel_rfl) (fun K hK => ?_)
        (repeat (first | with_reducible refine AW.seq ?_ | ((first | refine arun_kn 4 rfl (fun C hC => ?_) | refine arunD_kn 4 rfl (fun C hC => ?_)); (repeat ((conv => whnf); simp [hlt, hk, hwi, hjk, hj0, strsE_len])); refine hC _ ?_; clear hC C; simp only [List.drop, Nat.reduceAdd]) | ((first | refine arun_kn 1 rfl (fun C hC => ?_) | refine arunD_kn 1 rfl (fun C hC => ?_)); (repeat ((conv => whnf); simp [hlt, hk, hwi, hjk, hj0, strsE_len])); refine hC _ ?_; clear hC C; simp only [List.drop, Nat.reduceAdd]) | (refine arun_skip ?_ ?_; (focus (simp [awant, hlt, hk, hwi, hjk, hj0, strsE_len]; done))) | (refine arun_c0 (pk) ?_; rintro _ rfl) | (refine arunD_skip ?_ ?_; (focus (simp [awant, hlt, hk, hwi, hjk, hj0, strsE_len]; done))) | (refine arunD_c (0) (pk) ?_; rintro _ rfl; intro _) | (refine AW.regionK [] (fun K hK => ?_)) | (refine AW.condT ?_ ?_; (focus (simp [aev, hlt, hk, hwi, hjk, hj0, strsE_len]; done))) | (refine AW.condF ?_ ?_; (focus (simp [aev, hlt, hk, hwi, hjk, hj0, strsE_len]; done))) | with_reducible refine AW.block ?_ | ((first | ((first | refine arun_nil ?_ | refine arunD_nil ?_); refine hK _ ?_; clear hK K) | refine AW.skip ?_ | refine AW.exit ?_ | refine AW.ret ?_); simp only [thenA_exit, inBlockA_exit, if_true, if_false, Nat.reduceEqDiff, thenA_normal, inBlockA_normal, reduceIte, thenA_ret, inBlockA_ret, endQ_ret, endR_ret, endG_ret, endQ_normal, endR_normal, endG_normal])))
        refine AW.regionDK [] (pcs [(10, 0, fun r => r = .bool false)] []) (by kernel_rfl) (by kernel_rfl) (fun K hK => ?_)
        (repeat (first | with_reducible refine AW.seq ?_ | ((first | refine arun_kn 4 rfl (fun C hC => ?_) | refine arunD_kn 4 rfl (fun C hC => ?_)); (repeat ((conv => whnf); simp [hlt, hk, hwi, hjk, hj0, strsE_len])); refine hC _ ?_; clear hC C; simp only [List.drop, Nat.reduceAdd]) | ((first | refine arun_kn 1 rfl (fun C hC => ?_) | refine arunD_kn 1 rfl (fun C hC => ?_)); (repeat ((conv => whnf); simp [hlt, hk, hwi, hjk, hj0, strsE_len])); refine hC _ ?_; clear hC C; simp only [List.drop, Nat.reduceAdd]) | (refine arun_skip ?_ ?_; (focus (simp [awant, hlt, hk, hwi, hjk, hj0, strsE_len]; done))) | (refine arun_c0 (psm) ?_; rintro _ rfl) | (refine arunD_skip ?_ ?_; (focus (simp [awant, hlt, hk, hwi, hjk, hj0, strsE_len]; done))) | (refine arunD_c (0) (psm) ?_; rintro _ rfl; intro _) | (refine AW.regionK [] (fun K hK => ?_)) | (refine AW.condT ?_ ?_; (focus (simp [aev, hlt, hk, hwi, hjk, hj0, strsE_len]; done))) | (refine AW.condF ?_ ?_; (focus (simp [aev, hlt, hk, hwi, hjk, hj0, strsE_len]; done))) | with_reducible refine AW.block ?_ | ((first | ((first | refine arun_nil ?_ | refine arunD_nil ?_); refine hK _ ?_; clear hK K) | refine AW.skip ?_ | refine AW.exit ?_ | refine AW.ret ?_); simp only [thenA_exit, inBlockA_exit, if_true, if_false, Nat.reduceEqDiff, thenA_normal, inBlockA_normal, reduceIte, thenA_ret, inBlockA_ret, endQ_ret, endR_ret, endG_ret, endQ_normal, endR_normal, endG_normal])))
        refine AW.regionDK [] (pcs [(16, 0, fun r => r = .agg [.int .i64 y.kind, .int .i64 y.num, .str y.text, .view .loose 1 (strsE y.names), .view .loose 5 (y.kids.map nodeL)]), (17, 0, fun r => r = optL (some m))] []) (by kernel_rfl) (by kernel_rfl) (fun K hK => ?_)
        (repeat (first | with_reducible refine AW.seq ?_ | ((first | refine arun_kn 4 rfl (fun C hC => ?_) | refine arunD_kn 4 rfl (fun C hC => ?_)); (repeat ((conv => whnf); simp [hlt, hk, hwi, hjk, hj0, strsE_len, optL])); refine hC _ ?_; clear hC C; simp only [List.drop, Nat.reduceAdd]) | ((first | refine arun_kn 1 rfl (fun C hC => ?_) | refine arunD_kn 1 rfl (fun C hC => ?_)); (repeat ((conv => whnf); simp [hlt, hk, hwi, hjk, hj0, strsE_len, optL])); refine hC _ ?_; clear hC C; simp only [List.drop, Nat.reduceAdd]) | (refine arun_skip ?_ ?_; (focus (simp [awant, hlt, hk, hwi, hjk, hj0, strsE_len, optL]; done))) | (refine arun_c0 (hmg) ?_; rintro _ rfl) | (refine arun_c0 (hah) ?_; rintro _ rfl) | (refine arunD_skip ?_ ?_; (focus (simp [awant, hlt, hk, hwi, hjk, hj0, strsE_len, optL]; done))) | (refine arunD_cE (0) (hmg) (by exact ⟨_, rfl, nodeA_noid y⟩) ?_; rintro _ rfl; intro _) | (refine arunD_cE (0) (hah) (by exact ⟨_, rfl, optL_noid m⟩) ?_; rintro _ rfl; intro _) | (refine AW.regionK [] (fun K hK => ?_)) | (refine AW.regionDK [] (pcs [(16, 0, fun r => r = .bool false)] []) (by kernel_rfl) (by kernel_rfl) (fun K hK => ?_)) | (refine AW.condT ?_ ?_; (focus (simp [aev, hlt, hk, hwi, hjk, hj0, strsE_len, optL]; done))) | (refine AW.condF ?_ ?_; (focus (simp [aev, hlt, hk, hwi, hjk, hj0, strsE_len, optL]; done))) | with_reducible refine AW.block ?_ | ((first | ((first | refine arun_nil ?_ | refine arunD_nil ?_); refine hK _ ?_; clear hK K) | refine AW.skip ?_ | refine AW.exit ?_ | refine AW.ret ?_); simp only [thenA_exit, inBlockA_exit, if_true, if_false, Nat.reduceEqDiff, thenA_normal, inBlockA_normal, reduceIte, thenA_ret, inBlockA_ret, endQ_ret, endR_ret, endG_ret, endQ_normal, endR_normal, endG_normal])))
        refine ⟨(i + 1, m), by dsimp only; omega, ⟨by dsimp only; omega, hnext, hf⟩, ?_⟩
        dsimp only
        rw [nodeL_eq m]
        exact (less_of (by simp [lessL, mkSt, slots, zeroN, nodeN, namesRow, nodeO, kidsRow]) (by simp [upd, mkSt, rowsOf_cons, zeroN, nodeN, namesRow, nodeO, kidsRow]) (by simp [upd, mkSt, usedOf_cons, zeroN, nodeN, namesRow, nodeO, kidsRow]) (by first | exact rd_less (by omega) | simp [mkSt, zeroN, nodeN, namesRow, nodeO, kidsRow]) (by simp [slots, in_any, in_int, in_bool, in_str, in_ptr, in_own, in_agg, in_vnil, in_rdr, usedOf_cons, usedOf_nil, strs_in, ints_in, nodes_in, in_tup, zeroN, nodeN, namesRow, nodeO, kidsRow]) (by simp only [List.forall_mem_cons, List.not_mem_nil, false_implies, implies_true, and_true, true_and, zeroN, nodeN, namesRow, nodeO, kidsRow]; (repeat (first | with_reducible exact trivial | with_reducible refine And.intro ?_ ?_ | with_reducible exact in_int | with_reducible exact in_str | with_reducible exact in_bool | with_reducible exact strs_in _ | with_reducible exact nodes_in _ | with_reducible exact items_in _ | with_reducible exact in_vnil | with_reducible exact in_any | exact hin _ | with_reducible refine take_in ?_ | with_reducible exact strsE_in _ | with_reducible exact nodesE_in _ | with_reducible exact nodeL_in _ | with_reducible exact itemsE_in _ | with_reducible exact itemL_in _ | with_reducible refine app_in ?_ ?_ | with_reducible refine sing_in ?_ | (focus (simp [in_any, in_int, in_bool, in_str, in_ptr, in_own, in_agg, in_vnil, in_rdr, usedOf_cons, usedOf_nil, strs_in, ints_in, nodes_in, zeroN, nodeN, namesRow, nodeO, kidsRow]; done)))); done))
      · rw [hc0] at psm
        have hst : stA b r a.names[i] a.kids[i] = r := by unfold stA; rw [hmm, if_pos rfl, if_pos (by simpa using hc0)]
        rw [hst] at hf hnext
        rw [hko] at psm
        unfold nodeA at psm hcl1 hcl2
        rw [nodeL_eq a.kids[i], nodeL_eq b.kids[lbound b.names a.names[i]]] at psm
        rw [nodeL_eq] at hcl1 hcl2
        generalize lbound b.names a.names[i] = lb at *
        (repeat (first | with_reducible refine AW.seq ?_ | ((first | refine arun_kn 4 rfl (fun C hC => ?_) | refine arunD_kn 4 rfl (fun C hC => ?_)); (repeat ((conv => whnf); simp [hlt, hk, hwi, hjk, hj0, strsE_len])); refine hC _ ?_; clear hC C; simp only [List.drop, Nat.reduceAdd]) | ((first | refine arun_kn 1 rfl (fun C hC => ?_) | refine arunD_kn 1 rfl (fun C hC => ?_)); (repeat ((conv => whnf); simp [hlt, hk, hwi, hjk, hj0, strsE_len])); refine hC _ ?_; clear hC C; simp only [List.drop, Nat.reduceAdd]) | (refine arun_skip ?_ ?_; (focus (simp [awant, hlt, hk, hwi, hjk, hj0, strsE_len]; done))) | (refine arunD_skip ?_ ?_; (focus (simp [awant, hlt, hk, hwi, hjk, hj0, strsE_len]; done))) | (refine AW.regionK [] (fun K hK => ?_)) | (refine AW.condT ?_ ?_; (focus (simp [aev, hlt, hk, hwi, hjk, hj0, strsE_len]; done))) | (refine AW.condF ?_ ?_; (focus (simp [aev, hlt, hk, hwi, hjk, hj0, strsE_len]; done))) | with_reducible refine AW.block ?_ | ((first | ((first | refine arun_nil ?_ | refine arunD_nil ?_); refine hK _ ?_; clear hK K) | refine AW.skip ?_ | refine AW.exit ?_ | refine AW.ret ?_); simp only [thenA_exit, inBlockA_exit, if_true, if_false, Nat.reduceEqDiff, thenA_normal, inBlockA_normal, reduceIte, thenA_ret, inBlockA_ret, endQ_ret, endR_ret, endG_ret, endQ_normal, endR_normal, endG_normal])))
        refine AW.regionDK [] (pcs [(6, 0, fun r => r = .int .i64 (lb : Int))] []) (by kernel_rfl) (by kernel_rfl) (fun K hK => ?_)
        (repeat (first | with_reducible refine AW.seq ?_ | ((first | refine arun_kn 4 rfl (fun C hC => ?_) | refine arunD_kn 4 rfl (fun C hC => ?_)); (repeat ((conv => whnf); simp [hlt, hk, hwi, hjk, hj0, strsE_len])); refine hC _ ?_; clear hC C; simp only [List.drop, Nat.reduceAdd]) | ((first | refine arun_kn 1 rfl (fun C hC => ?_) | refine arunD_kn 1 rfl (fun C hC => ?_)); (repeat ((conv => whnf); simp [hlt, hk, hwi, hjk, hj0, strsE_len])); refine hC _ ?_; clear hC C; simp only [List.drop, Nat.reduceAdd]) | (refine arun_skip ?_ ?_; (focus (simp [awant, hlt, hk, hwi, hjk, hj0, strsE_len]; done))) | (refine arun_c0 (pk) ?_; rintro _ rfl) | (refine arunD_skip ?_ ?_; (focus (simp [awant, hlt, hk, hwi, hjk, hj0, strsE_len]; done))) | (refine arunD_c (0) (pk) ?_; rintro _ rfl; intro _) | (refine AW.regionK [] (fun K hK => ?_)) | (refine AW.condT ?_ ?_; (focus (simp [aev, hlt, hk, hwi, hjk, hj0, strsE_len]; done))) | (refine AW.condF ?_ ?_; (focus (simp [aev, hlt, hk, hwi, hjk, hj0, strsE_len]; done))) | with_reducible refine AW.block ?_ | ((first | ((first | refine arun_nil ?_ | refine arunD_nil ?_); refine hK _ ?_; clear hK K) | refine AW.skip ?_ | refine AW.exit ?_ | refine AW.ret ?_); simp only [thenA_exit, inBlockA_exit, if_true, if_false, Nat.reduceEqDiff, thenA_normal, inBlockA_normal, reduceIte, thenA_ret, inBlockA_ret, endQ_ret, endR_ret, endG_ret, endQ_normal, endR_normal, endG_normal])))
        refine AW.regionDK [] (pcs [(10, 0, fun r => r = .bool true)] []) (by kernel_rfl) (by kernel_rfl) (fun K hK => ?_)
        (repeat (first | with_reducible refine AW.seq ?_ | ((first | refine arun_kn 4 rfl (fun C hC => ?_) | refine arunD_kn 4 rfl (fun C hC => ?_)); (repeat ((conv => whnf); simp [hlt, hk, hwi, hjk, hj0, strsE_len])); refine hC _ ?_; clear hC C; simp only [List.drop, Nat.reduceAdd]) | ((first | refine arun_kn 1 rfl (fun C hC => ?_) | refine arunD_kn 1 rfl (fun C hC => ?_)); (repeat ((conv => whnf); simp [hlt, hk, hwi, hjk, hj0, strsE_len])); refine hC _ ?_; clear hC C; simp only [List.drop, Nat.reduceAdd]) | (refine arun_skip ?_ ?_; (focus (simp [awant, hlt, hk, hwi, hjk, hj0, strsE_len]; done))) | (refine arun_c0 (psm) ?_; rintro _ rfl) | (refine arunD_skip ?_ ?_; (focus (simp [awant, hlt, hk, hwi, hjk, hj0, strsE_len]; done))) | (refine arunD_c (0) (psm) ?_; rintro _ rfl; intro _) | (refine AW.regionK [] (fun K hK => ?_)) | (refine AW.regionDK [] (pcs [(10, 0, fun r => r = .bool true)] []) (by kernel_rfl) (by kernel_rfl) (fun K hK => ?_)) | (refine AW.condT ?_ ?_; (focus (simp [aev, hlt, hk, hwi, hjk, hj0, strsE_len]; done))) | (refine AW.condF ?_ ?_; (focus (simp [aev, hlt, hk, hwi, hjk, hj0, strsE_len]; done))) | with_reducible refine AW.block ?_ | ((first | ((first | refine arun_nil ?_ | refine arunD_nil ?_); refine hK _ ?_; clear hK K) | refine AW.skip ?_ | refine AW.exit ?_ | refine AW.ret ?_); simp only [thenA_exit, inBlockA_exit, if_true, if_false, Nat.reduceEqDiff, thenA_normal, inBlockA_normal, reduceIte, thenA_ret, inBlockA_ret, endQ_ret, endR_ret, endG_ret, endQ_normal, endR_normal, endG_normal])))
        generalize r = m at *
        refine ⟨(i + 1, m), by dsimp only; omega, ⟨by dsimp only; omega, hnext, hf⟩, ?_⟩
        dsimp only
        rw [nodeL_eq m]
        exact (less_of (by simp [lessL, mkSt, slots, zeroN, nodeN, namesRow, nodeO, kidsRow]) (by simp [upd, mkSt, rowsOf_cons, zeroN, nodeN, namesRow, nodeO, kidsRow]) (by simp [upd, mkSt, usedOf_cons, zeroN, nodeN, namesRow, nodeO, kidsRow]) (by first | exact rd_less (by omega) | simp [mkSt, zeroN, nodeN, namesRow, nodeO, kidsRow]) (by simp [slots, in_any, in_int, in_bool, in_str, in_ptr, in_own, in_agg, in_vnil, in_rdr, usedOf_cons, usedOf_nil, strs_in, ints_in, nodes_in, in_tup, zeroN, nodeN, namesRow, nodeO, kidsRow]) (by simp only [List.forall_mem_cons, List.not_mem_nil, false_implies, implies_true, and_true, true_and, zeroN, nodeN, namesRow, nodeO, kidsRow]; (repeat (first | with_reducible exact trivial | with_reducible refine And.intro ?_ ?_ | with_reducible exact in_int | with_reducible exact in_str | with_reducible exact in_bool | with_reducible exact strs_in _ | with_reducible exact nodes_in _ | with_reducible exact items_in _ | with_reducible exact in_vnil | with_reducible exact in_any | exact hin _ | with_reducible refine take_in ?_ | with_reducible exact strsE_in _ | with_reducible exact nodesE_in _ | with_reducible exact nodeL_in _ | with_reducible exact itemsE_in _ | with_reducible exact itemL_in _ | with_reducible refine app_in ?_ ?_ | with_reducible refine sing_in ?_ | (focus (simp [in_any, in_int, in_bool, in_str, in_ptr, in_own, in_agg, in_vnil, in_rdr, usedOf_cons, usedOf_nil, strs_in, ints_in, nodes_in, zeroN, nodeN, namesRow, nodeO, kidsRow]; done)))); done))
  obtain rfl : i = a.names.length := by omega
  rw [pbL_end (by omega)] at hf
  rw [hf.symm] at hM1
  clear hm
  have hlk : ¬ (a.names.length < a.kids.length) := by omega
  have hlk' : ¬ ((a.names.length : Int) < (a.kids.length : Int)) := by omega
  (repeat (first | with_reducible refine AW.seq ?_ | ((first | refine arun_kn 4 rfl (fun C hC => ?_) | refine arunD_kn 4 rfl (fun C hC => ?_)); (repeat ((conv => whnf); simp [strsE_len, hlk, hlk'])); refine hC _ ?_; clear hC C; simp only [List.drop, Nat.reduceAdd]) | ((first | refine arun_kn 1 rfl (fun C hC => ?_) | refine arunD_kn 1 rfl (fun C hC => ?_)); (repeat ((conv => whnf); simp [strsE_len, hlk, hlk'])); refine hC _ ?_; clear hC C; simp only [List.drop, Nat.reduceAdd]) | (refine arun_skip ?_ ?_; (focus (simp [awant, strsE_len, hlk, hlk']; done))) | (refine arunD_skip ?_ ?_; (focus (simp [awant, strsE_len, hlk, hlk']; done))) | (refine AW.regionK [] (fun K hK => ?_)) | (refine AW.regionDK [] (pcs [] []) (by kernel_rfl) (by kernel_rfl) (fun K hK => ?_)) | (refine AW.condT ?_ ?_; (focus (simp [aev, strsE_len, hlk, hlk']; done))) | (refine AW.condF ?_ ?_; (focus (simp [aev, strsE_len, hlk, hlk']; done))) | with_reducible refine AW.block ?_ | ((first | ((first | refine arun_nil ?_ | refine arunD_nil ?_); refine hK _ ?_; clear hK K) | refine AW.skip ?_ | refine AW.exit ?_ | refine AW.ret ?_); simp only [thenA_exit, inBlockA_exit, if_true, if_false, Nat.reduceEqDiff, thenA_normal, inBlockA_normal, reduceIte, thenA_ret, inBlockA_ret, endQ_ret, endR_ret, endG_ret, endQ_normal, endR_normal, endG_normal])))
  refine AW.loopS (fun (x : Nat × Nd) => mkSt (slots 0 115 [(2, .ptr true 5 1 2 0 0), (3, .ptr true 5 1 3 0 0), (4, .ptr true 5 1 4 0 0), (5, .ptr true 5 1 5 0 0), (8, .int .i64 x.1)]) [(2, ⟨true, 30, 5, [[.int .i64 a.kind, .int .i64 a.num, .str a.text, .view .loose 1 (strsE a.names), .view .loose 5 (a.kids.map nodeL)]]⟩), (3, ⟨true, 30, 5, [[.int .i64 b.kind, .int .i64 b.num, .str b.text, .view .loose 1 (strsE b.names), .view .loose 5 (b.kids.map nodeL)]]⟩), (4, ⟨true, 30, 5, [zeroN]⟩), (5, ⟨true, 30, 5, [nodeL x.2]⟩)] [2, 3, 4, 5] (rd0.map fun _ => 0)) (fun x => b.names.length - x.1) (fun x => x.1 ≤ b.names.length ∧ MidB a b x.1 x.2 ∧ pbB a.names (b.names.drop x.1) (b.kids.drop x.1) x.2 = pbB a.names b.names b.kids R1) (0, r) ?_ ⟨Nat.zero_le _, hM1, by dsimp only; rw [hf]; rfl⟩ ?_
  · dsimp only
    rw [nodeL_eq r]
    exact (less_of (by simp [lessL, mkSt, slots, zeroN, nodeN, namesRow, nodeO, kidsRow]) (by simp [upd, mkSt, rowsOf_cons, zeroN, nodeN, namesRow, nodeO, kidsRow]) (by simp [upd, mkSt, usedOf_cons, zeroN, nodeN, namesRow, nodeO, kidsRow]) (by first | exact rd_less (by omega) | simp [mkSt, zeroN, nodeN, namesRow, nodeO, kidsRow]) (by simp [slots, in_any, in_int, in_bool, in_str, in_ptr, in_own, in_agg, in_vnil, in_rdr, usedOf_cons, usedOf_nil, strs_in, ints_in, nodes_in, in_tup, zeroN, nodeN, namesRow, nodeO, kidsRow]) (by simp only [List.forall_mem_cons, List.not_mem_nil, false_implies, implies_true, and_true, true_and, zeroN, nodeN, namesRow, nodeO, kidsRow]; (repeat (first | with_reducible exact trivial | with_reducible refine And.intro ?_ ?_ | with_reducible exact in_int | with_reducible exact in_str | with_reducible exact in_bool | with_reducible exact strs_in _ | with_reducible exact nodes_in _ | with_reducible exact items_in _ | with_reducible exact in_vnil | with_reducible exact in_any | exact hin _ | with_reducible refine take_in ?_ | with_reducible exact strsE_in _ | with_reducible exact nodesE_in _ | with_reducible exact nodeL_in _ | with_reducible exact itemsE_in _ | with_reducible exact itemL_in _ | with_reducible refine app_in ?_ ?_ | with_reducible refine sing_in ?_ | (focus (simp [in_any, in_int, in_bool, in_str, in_ptr, in_own, in_agg, in_vnil, in_rdr, usedOf_cons, usedOf_nil, strs_in, ints_in, nodes_in, zeroN, nodeN, namesRow, nodeO, kidsRow]; done)))); done))
  clear hM1 hf r
  rintro ⟨i, r⟩ ⟨hi, hm, hf⟩
  dsimp only at hi hm hf ⊢
  rw [nodeL_eq r]
  by_cases hlt : i < b.names.length
  · have hk : i < b.kids.length := by omega
    have hwi : IntKind.i64.wrap ((i : Int) + 1) = ((i + 1 : Nat) : Int) := by rw [i64_nat (by omega) (by omega)]; simp
    have hnext := hm.next hb hlt hk
    rw [pbB_step hlt hk] at hf
    have hsr : Sml r := hm.smlR (by omega)
    have pk := place_ok .loose a b.names[i] (hwa.slt ha.sml).plc
    rw [place_w hwa] at pk
    unfold nodeT at pk
    rw [nodeTL_eq] at pk
    have hca := node_clo a
    unfold nodeA at hca
    rw [nodeL_eq a] at hca
    cases hmm : mem a.names b.names[i]
    · rw [hmm, if_neg (by simp)] at pk
      have hfr := hm.free hb h4b hlt hmm
      have hst : stB a.names r b.names[i] b.kids[i] = putK r b.names[i] b.kids[i] := by unfold stB; rw [hmm]; rfl
      rw [hst] at hf hnext
      have hah := addHereG_AC r b.kids[i] b.names[i] (hm.w.slt hsr) (hb.kid (List.getElem_mem hk)).sml
      rw [addK_w hm.w hfr, optA_eq] at hah
      generalize putK r b.names[i] b.kids[i] = m at *
      have hcl1 := node_clo b.kids[i]
      unfold nodeA at hah hcl1
      rw [nodeL_eq r, nodeL_eq b.kids[i]] at hah
      rw [nodeL_eq] at hcl1
      (repeat (first | with_reducible refine AW.seq ?_ | ((first | refine arun_kn 4 rfl (fun C hC => ?_) | refine arunD_kn 4 rfl (fun C hC => ?_)); (repeat ((conv => whnf); simp [hlt, hk, hwi, strsE_len])); refine hC _ ?_; clear hC C; simp only [List.drop, Nat.reduceAdd]) | ((first | refine arun_kn 1 rfl (fun C hC => ?_) | refine arunD_kn 1 rfl (fun C hC => ?_)); (repeat ((conv => whnf); simp [hlt, hk, hwi, strsE_len])); refine hC _ ?_; clear hC C; simp only [List.drop, Nat.reduceAdd]) | (refine arun_skip ?_ ?_; (focus (simp [awant, hlt, hk, hwi, strsE_len]; done))) | (refine arunD_skip ?_ ?_; (focus (simp [awant, hlt, hk, hwi, strsE_len]; done))) | (refine AW.regionK [] (fun K hK => ?_)) | (refine AW.condT ?_ ?_; (focus (simp [aev, hlt, hk, hwi, strsE_len]; done))) | (refine AW.condF ?_ ?_; (focus (simp [aev, hlt, hk, hwi, strsE_len]; done))) | with_reducible refine AW.block ?_ | ((first | ((first | refine arun_nil ?_ | refine arunD_nil ?_); refine hK _ ?_; clear hK K) | refine AW.skip ?_ | refine AW.exit ?_ | refine AW.ret ?_); simp only [thenA_exit, inBlockA_exit, if_true, if_false, Nat.reduceEqDiff, thenA_normal, inBlockA_normal, reduceIte, thenA_ret, inBlockA_ret, endQ_ret, endR_ret, endG_ret, endQ_normal, endR_normal, endG_normal])))
      refine AW.regionDK [] (pcs [(6, 0, fun r => r = .int .i64 (-1))] []) (by kernel_rfl) (by kernel_rfl) (fun K hK => ?_)
      (repeat (first | with_reducible refine AW.seq ?_ | ((first | refine arun_kn 4 rfl (fun C hC => ?_) | refine arunD_kn 4 rfl (fun C hC => ?_)); (repeat ((conv => whnf); simp [hlt, hk, hwi, strsE_len])); refine hC _ ?_; clear hC C; simp only [List.drop, Nat.reduceAdd]) | ((first | refine arun_kn 1 rfl (fun C hC => ?_) | refine arunD_kn 1 rfl (fun C hC => ?_)); (repeat ((conv => whnf); simp [hlt, hk, hwi, strsE_len])); refine hC _ ?_; clear hC C; simp only [List.drop, Nat.reduceAdd]) | (refine arun_skip ?_ ?_; (focus (simp [awant, hlt, hk, hwi, strsE_len]; done))) | (refine arun_c0 (pk) ?_; rintro _ rfl) | (refine arunD_skip ?_ ?_; (focus (simp [awant, hlt, hk, hwi, strsE_len]; done))) | (refine arunD_c (0) (pk) ?_; rintro _ rfl; intro _) | (refine AW.regionK [] (fun K hK => ?_)) | (refine AW.condT ?_ ?_; (focus (simp [aev, hlt, hk, hwi, strsE_len]; done))) | (refine AW.condF ?_ ?_; (focus (simp [aev, hlt, hk, hwi, strsE_len]; done))) | with_reducible refine AW.block ?_ | ((first | ((first | refine arun_nil ?_ | refine arunD_nil ?_); refine hK _ ?_; clear hK K) | refine AW.skip ?_ | refine AW.exit ?_ | refine AW.ret ?_); simp only [thenA_exit, inBlockA_exit, if_true, if_false, Nat.reduceEqDiff, thenA_normal, inBlockA_normal, reduceIte, thenA_ret, inBlockA_ret, endQ_ret, endR_ret, endG_ret, endQ_normal, endR_normal, endG_normal])))
      refine AW.regionDK [] (pcs [(11, 0, fun r => r = optL (some m))] []) (by kernel_rfl) (by kernel_rfl) (fun K hK => ?_)
      (repeat (first | with_reducible refine AW.seq ?_ | ((first | refine arun_kn 4 rfl (fun C hC => ?_) | refine arunD_kn 4 rfl (fun C hC => ?_)); (repeat ((conv => whnf); simp [hlt, hk, hwi, strsE_len, optL])); refine hC _ ?_; clear hC C; simp only [List.drop, Nat.reduceAdd]) | ((first | refine arun_kn 1 rfl (fun C hC => ?_) | refine arunD_kn 1 rfl (fun C hC => ?_)); (repeat ((conv => whnf); simp [hlt, hk, hwi, strsE_len, optL])); refine hC _ ?_; clear hC C; simp only [List.drop, Nat.reduceAdd]) | (refine arun_skip ?_ ?_; (focus (simp [awant, hlt, hk, hwi, strsE_len, optL]; done))) | (refine arun_c0 (hah) ?_; rintro _ rfl) | (refine arunD_skip ?_ ?_; (focus (simp [awant, hlt, hk, hwi, strsE_len, optL]; done))) | (refine arunD_cE (0) (hah) (by exact ⟨_, rfl, optL_noid m⟩) ?_; rintro _ rfl; intro _) | (refine AW.regionK [] (fun K hK => ?_)) | (refine AW.regionDK [] (pcs [(11, 0, fun r => r = .int .i64 0)] []) (by kernel_rfl) (by kernel_rfl) (fun K hK => ?_)) | (refine AW.condT ?_ ?_; (focus (simp [aev, hlt, hk, hwi, strsE_len, optL]; done))) | (refine AW.condF ?_ ?_; (focus (simp [aev, hlt, hk, hwi, strsE_len, optL]; done))) | with_reducible refine AW.block ?_ | ((first | ((first | refine arun_nil ?_ | refine arunD_nil ?_); refine hK _ ?_; clear hK K) | refine AW.skip ?_ | refine AW.exit ?_ | refine AW.ret ?_); simp only [thenA_exit, inBlockA_exit, if_true, if_false, Nat.reduceEqDiff, thenA_normal, inBlockA_normal, reduceIte, thenA_ret, inBlockA_ret, endQ_ret, endR_ret, endG_ret, endQ_normal, endR_normal, endG_normal])))
      refine ⟨(i + 1, m), by dsimp only; omega, ⟨by dsimp only; omega, hnext, hf⟩, ?_⟩
      dsimp only
      rw [nodeL_eq m]
      exact (less_of (by simp [lessL, mkSt, slots, zeroN, nodeN, namesRow, nodeO, kidsRow]) (by simp [upd, mkSt, rowsOf_cons, zeroN, nodeN, namesRow, nodeO, kidsRow]) (by simp [upd, mkSt, usedOf_cons, zeroN, nodeN, namesRow, nodeO, kidsRow]) (by first | exact rd_less (by omega) | simp [mkSt, zeroN, nodeN, namesRow, nodeO, kidsRow]) (by simp [slots, in_any, in_int, in_bool, in_str, in_ptr, in_own, in_agg, in_vnil, in_rdr, usedOf_cons, usedOf_nil, strs_in, ints_in, nodes_in, in_tup, zeroN, nodeN, namesRow, nodeO, kidsRow]) (by simp only [List.forall_mem_cons, List.not_mem_nil, false_implies, implies_true, and_true, true_and, zeroN, nodeN, namesRow, nodeO, kidsRow]; (repeat (first | with_reducible exact trivial | with_reducible refine And.intro ?_ ?_ | with_reducible exact in_int | with_reducible exact in_str | with_reducible exact in_bool | with_reducible exact strs_in _ | with_reducible exact nodes_in _ | with_reducible exact items_in _ | with_reducible exact in_vnil | with_reducible exact in_any | exact hin _ | with_reducible refine take_in ?_ | with_reducible exact strsE_in _ | with_reducible exact nodesE_in _ | with_reducible exact nodeL_in _ | with_reducible exact itemsE_in _ | with_reducible exact itemL_in _ | with_reducible refine app_in ?_ ?_ | with_reducible refine sing_in ?_ | (focus (simp [in_any, in_int, in_bool, in_str, in_ptr, in_own, in_agg, in_vnil, in_rdr, usedOf_cons, usedOf_nil, strs_in, ints_in, nodes_in, zeroN, nodeN, namesRow, nodeO, kidsRow]; done)))); done))
    · rw [hmm, if_pos rfl] at pk
      have hj0 : ¬ ((lbound a.names b.names[i] : Int) < 0) := by omega
      have hst : stB a.names r b.names[i] b.kids[i] = r := by unfold stB; rw [hmm]; rfl
      rw [hst] at hf hnext
      generalize lbound a.names b.names[i] = lb at *
      (repeat (first | with_reducible refine AW.seq ?_ | ((first | refine arun_kn 4 rfl (fun C hC => ?_) | refine arunD_kn 4 rfl (fun C hC => ?_)); (repeat ((conv => whnf); simp [hlt, hk, hwi, hj0, strsE_len])); refine hC _ ?_; clear hC C; simp only [List.drop, Nat.reduceAdd]) | ((first | refine arun_kn 1 rfl (fun C hC => ?_) | refine arunD_kn 1 rfl (fun C hC => ?_)); (repeat ((conv => whnf); simp [hlt, hk, hwi, hj0, strsE_len])); refine hC _ ?_; clear hC C; simp only [List.drop, Nat.reduceAdd]) | (refine arun_skip ?_ ?_; (focus (simp [awant, hlt, hk, hwi, hj0, strsE_len]; done))) | (refine arun_c0 (pk) ?_; rintro _ rfl) | (refine arunD_skip ?_ ?_; (focus (simp [awant, hlt, hk, hwi, hj0, strsE_len]; done))) | (refine arunD_c (0) (pk) ?_; rintro _ rfl; intro _) | (refine AW.regionK [] (fun K hK => ?_)) | (refine AW.regionDK [] (pcs [(6, 0, fun r => r = .int .i64 (lb : Int))] []) (by kernel_rfl) (by kernel_rfl) (fun K hK => ?_)) | (refine AW.condT ?_ ?_; (focus (simp [aev, hlt, hk, hwi, hj0, strsE_len]; done))) | (refine AW.condF ?_ ?_; (focus (simp [aev, hlt, hk, hwi, hj0, strsE_len]; done))) | with_reducible refine AW.block ?_ | ((first | ((first | refine arun_nil ?_ | refine arunD_nil ?_); refine hK _ ?_; clear hK K) | refine AW.skip ?_ | refine AW.exit ?_ | refine AW.ret ?_); simp only [thenA_exit, inBlockA_exit, if_true, if_false, Nat.reduceEqDiff, thenA_normal, inBlockA_normal, reduceIte, thenA_ret, inBlockA_ret, endQ_ret, endR_ret, endG_ret, endQ_normal, endR_normal, endG_normal])))
      generalize r = m at *
      refine ⟨(i + 1, m), by dsimp only; omega, ⟨by dsimp only; omega, hnext, hf⟩, ?_⟩
      dsimp only
      rw [nodeL_eq m]
      exact (less_of (by simp [lessL, mkSt, slots, zeroN, nodeN, namesRow, nodeO, kidsRow]) (by simp [upd, mkSt, rowsOf_cons, zeroN, nodeN, namesRow, nodeO, kidsRow]) (by simp [upd, mkSt, usedOf_cons, zeroN, nodeN, namesRow, nodeO, kidsRow]) (by first | exact rd_less (by omega) | simp [mkSt, zeroN, nodeN, namesRow, nodeO, kidsRow]) (by simp [slots, in_any, in_int, in_bool, in_str, in_ptr, in_own, in_agg, in_vnil, in_rdr, usedOf_cons, usedOf_nil, strs_in, ints_in, nodes_in, in_tup, zeroN, nodeN, namesRow, nodeO, kidsRow]) (by simp only [List.forall_mem_cons, List.not_mem_nil, false_implies, implies_true, and_true, true_and, zeroN, nodeN, namesRow, nodeO, kidsRow]; (repeat (first | with_reducible exact trivial | with_reducible refine And.intro ?_ ?_ | with_reducible exact in_int | with_reducible exact in_str | with_reducible exact in_bool | with_reducible exact strs_in _ | with_reducible exact nodes_in _ | with_reducible exact items_in _ | with_reducible exact in_vnil | with_reducible exact in_any | exact hin _ | with_reducible refine take_in ?_ | with_reducible exact strsE_in _ | with_reducible exact nodesE_in _ | with_reducible exact nodeL_in _ | with_reducible exact itemsE_in _ | with_reducible exact itemL_in _ | with_reducible refine app_in ?_ ?_ | with_reducible refine sing_in ?_ | (focus (simp [in_any, in_int, in_bool, in_str, in_ptr, in_own, in_agg, in_vnil, in_rdr, usedOf_cons, usedOf_nil, strs_in, ints_in, nodes_in, zeroN, nodeN, namesRow, nodeO, kidsRow]; done)))); done))
  obtain rfl : i = b.names.length := by omega
  rw [pbB_end (by omega)] at hf
  have hlk2 : ¬ (b.names.length < b.kids.length) := by omega
  have hlk2' : ¬ ((b.names.length : Int) < (b.kids.length : Int)) := by omega
  (repeat (first | with_reducible refine AW.seq ?_ | ((first | refine arun_kn 4 rfl (fun C hC => ?_) | refine arunD_kn 4 rfl (fun C hC => ?_)); (repeat ((conv => whnf); simp [strsE_len, hlk2, hlk2', zeroN])); refine hC _ ?_; clear hC C; simp only [List.drop, Nat.reduceAdd]) | ((first | refine arun_kn 1 rfl (fun C hC => ?_) | refine arunD_kn 1 rfl (fun C hC => ?_)); (repeat ((conv => whnf); simp [strsE_len, hlk2, hlk2', zeroN])); refine hC _ ?_; clear hC C; simp only [List.drop, Nat.reduceAdd]) | (refine arun_skip ?_ ?_; (focus (simp [awant, strsE_len, hlk2, hlk2', zeroN]; done))) | (refine arunD_skip ?_ ?_; (focus (simp [awant, strsE_len, hlk2, hlk2', zeroN]; done))) | (refine AW.regionK [] (fun K hK => ?_)) | (refine AW.regionDK [] (pcs [] []) (by kernel_rfl) (by kernel_rfl) (fun K hK => ?_)) | (refine AW.condT ?_ ?_; (focus (simp [aev, strsE_len, hlk2, hlk2', zeroN]; done))) | (refine AW.condF ?_ ?_; (focus (simp [aev, strsE_len, hlk2, hlk2', zeroN]; done))) | with_reducible refine AW.block ?_ | ((first | ((first | refine arun_nil ?_ | refine arunD_nil ?_); refine hK _ ?_; clear hK K) | refine AW.skip ?_ | refine AW.exit ?_ | refine AW.ret ?_); simp only [thenA_exit, inBlockA_exit, if_true, if_false, Nat.reduceEqDiff, thenA_normal, inBlockA_normal, reduceIte, thenA_ret, inBlockA_ret, endQ_ret, endR_ret, endG_ret, endQ_normal, endR_normal, endG_normal])))
  exact ⟨nodeA r, by simp [ares, aresL, upd, rowsOf_cons], node_pur r, by rw [← hf]; rfl⟩
theorem mergeFor_AC : ∀ a, Shp a → ∀ b, Shp b → AC Try.prog 125 [nodeA a, nodeA b] 0 (fun r => r = nodeA (pb a b)) := Nd.ind' _ (fun a ih ha b hb =>
  mergeFor_step a b ha hb (fun k hk m hm => ih k hk (ha.kid hk) m hm))
end Go.Proofs.Ytgfnmhfdmmnaoaa.Eng
namespace Go.Proofs.Ytgfnmhfdmmnaoaa.Eng
open Go Go.RowKit
section
variable {P : Program} {T : Tab} {k0 : Nat} {md : List Nat} {Av : Nat → Prop} {pc : Pc} {ops : Array Oper} {K : ASt → Prop} {o : Oper} {l : List Oper} {s : ASt} {f : FuncId} {xs : List Operand} {args : List AV}
end
end Go.Proofs.Ytgfnmhfdmmnaoaa.Eng
-- EV: rows
namespace Go.Proofs.Ytgfnmhfdmmnaoaa.Eng
open Go Go.RowKit
attribute [local simp] big size_mk ASt.pay Option.map_map Function.comp_def awant aop acall ado aev ofVal ofVal0 ASt.put ASt.add ASt.turn ASt.kill abox aalloc astore aload aloadD astoreD idOf ASt.at cellsTo afieldAddr afield aindexAddr aindex alen abin aint acmp astr aun apick aextract anil aslice abound abuild afill abuildSlice asCells aps avCells over upd aappend asrc amax amin aconv mkSt slots rowsOf_cons rowsOf_nil usedOf_cons usedOf_nil ZK.av List.replicate ASt.back ASt.addL ASt.killL nodeA nodeT nodeTL_eq nodeL_eq strsE_get strsE_len intsE_get intsE_len strsE_at intsE_at nodeN namesRow nodeO kidsRow tab2 tab3 tab4 tab5 tab6 tab7 tab8 tab9 tab10 tab11 tab12 tab13 tab14 tab15 tab16 tab17 tab18 tab19 tab21 tab22 tab23 tab24 tab25 tab26 tab27 tab28 tab29 tab30 tab39 tab40 tab41 tab42 tab43 tab47 tab48 tab55 tab56 tab57 tab60 tab61 tab62 tab73 tab74 tab75 tab85 tab92 tab115 tab116 tab143 tab144 tab145 tab154 tab155 tab170 tab175 tab182 tab197 tab198 tab203 tab204 tab205 tab207 tab208 tab209
end Go.Proofs.Ytgfnmhfdmmnaoaa.Eng
namespace Go.Proofs.Ytgfnmhfdmmnaoaa.Eng
open Go Go.RowKit
attribute [local simp] big size_mk ASt.pay Option.map_map Function.comp_def awant aop acall ado aev ofVal ofVal0 ASt.put ASt.add ASt.turn ASt.kill abox aalloc astore aload aloadD astoreD idOf ASt.at cellsTo afieldAddr afield aindexAddr aindex alen abin aint acmp astr aun apick aextract anil aslice abound abuild afill abuildSlice asCells aps avCells over upd aappend asrc amax amin aconv mkSt slots rowsOf_cons rowsOf_nil usedOf_cons usedOf_nil ZK.av List.replicate ASt.back ASt.addL ASt.killL nodeA nodeT nodeTL_eq nodeL_eq strsE_get strsE_len intsE_get intsE_len strsE_at intsE_at tab2 tab3 tab4 tab5 tab6 tab7 tab8 tab9 tab10 tab11 tab12 tab13 tab14 tab15 tab16 tab17 tab18 tab19 tab21 tab22 tab23 tab24 tab25 tab26 tab27 tab28 tab29 tab30 tab39 tab40 tab41 tab42 tab43 tab47 tab48 tab55 tab56 tab57 tab60 tab61 tab62 tab73 tab74 tab75 tab85 tab92 tab115 tab116 tab143 tab144 tab145 tab154 tab155 tab170 tab175 tab182 tab197 tab198 tab203 tab204 tab205 tab207 tab208 tab209
end Go.Proofs.Ytgfnmhfdmmnaoaa.Eng
-- EV: rows skip
namespace Go.Proofs.Ytgfnmhfdmmnaoaa.Eng
open Go Go.RowKit
attribute [local simp] big size_mk ASt.pay Option.map_map Function.comp_def awant aop acall ado aev ofVal ofVal0 ASt.put ASt.add ASt.turn ASt.kill abox aalloc astore aload aloadD astoreD idOf ASt.at cellsTo afieldAddr afield aindexAddr aindex alen abin aint acmp astr aun apick aextract anil aslice abound abuild afill abuildSlice asCells aps avCells over upd aappend asrc amax amin aconv mkSt slots rowsOf_cons rowsOf_nil usedOf_cons usedOf_nil ZK.av List.replicate ASt.back ASt.addL ASt.killL nodeA nodeT nodeTL_eq nodeL_eq strsE_get strsE_len intsE_get intsE_len strsE_at intsE_at nodeN namesRow nodeO kidsRow tab2 tab3 tab4 tab5 tab6 tab7 tab8 tab9 tab10 tab11 tab12 tab13 tab14 tab15 tab16 tab17 tab18 tab19 tab21 tab22 tab23 tab24 tab25 tab26 tab27 tab28 tab29 tab30 tab39 tab40 tab41 tab42 tab43 tab47 tab48 tab55 tab56 tab57 tab60 tab61 tab62 tab73 tab74 tab75 tab85 tab92 tab115 tab116 tab143 tab144 tab145 tab154 tab155 tab170 tab175 tab182 tab197 tab198 tab203 tab204 tab205 tab207 tab208 tab209
end Go.Proofs.Ytgfnmhfdmmnaoaa.Eng
namespace Go.Proofs.Ytgfnmhfdmmnaoaa.Eng
open Go Go.RowKit
mutual
def plainB : Nd → Bool
  | ⟨kind, _, _, _, kids⟩ => if kind = 4 then plainL kids else true
def plainL : List Nd → Bool
  | [] => true
  | k :: ks => decide (k.kind ≠ 0) && plainB k && plainL ks
end
theorem plainB_eq (n : Nd) : plainB n = if n.kind = 4 then plainL n.kids else true := by cases n; rw [plainB]
theorem plainL_drop {l : List Nd} {i : Nat} (h : i < l.length) : plainL (l.drop i) = (decide (l[i].kind ≠ 0) && plainB l[i] && plainL (l.drop (i + 1))) := by
  rw [List.drop_eq_getElem_cons h, plainL]
theorem countL_take {l : List Nd} {i : Nat} (h : i < l.length) : countL (l.take (i + 1)) = countL (l.take i) + l[i].count := by
  rw [List.take_add_one, List.getElem?_eq_getElem h, Option.toList_some, countL_snoc]
end Go.Proofs.Ytgfnmhfdmmnaoaa.Eng
