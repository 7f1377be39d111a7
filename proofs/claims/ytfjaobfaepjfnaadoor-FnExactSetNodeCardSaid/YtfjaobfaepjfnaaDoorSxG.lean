/-
  Texts of this claim, joined.
-/
import Derived.Lib.Bytealg
import Derived.Test.YtfjaobfaepjfnaaDoorSxF

set_option linter.unusedSimpArgs false
set_option linter.unusedVariables false
set_option linter.unnecessarySimpa false
set_option maxRecDepth 100000
set_option maxHeartbeats 16000000
namespace Go.Proofs.YtfjaobfaepjfnaaDoor.Eng
open Go Go.RowKit
attribute [local simp] big size_mk ASt.pay Option.map_map Function.comp_def awant aop acall ado aev ofVal ofVal0 ASt.put ASt.add ASt.turn ASt.kill abox aalloc astore aload aloadD astoreD idOf ASt.at cellsTo afieldAddr afield aindexAddr aindex alen abin aint acmp astr aun apick aextract anil aslice abound abuild afill abuildSlice asCells aps avCells over upd aappend asrc amax amin aconv mkSt slots rowsOf_cons rowsOf_nil usedOf_cons usedOf_nil ZK.av List.replicate ASt.back ASt.addL ASt.killL nodeA nodeT nodeTL_eq nodeL_eq strsE_get strsE_len intsE_get intsE_len strsE_at intsE_at tab2 tab3 tab4 tab5 tab6 tab7 tab8 tab9 tab10 tab11 tab12 tab13 tab14 tab15 tab16 tab17 tab18 tab19 tab21 tab22 tab23 tab24 tab25 tab26 tab28 tab29 tab30 tab31 tab42 tab43 tab44 tab46 tab63 tab64 tab67 tab68 tab75 tab98 tab100 tab101 tab105 tab106 tab107 tab122 tab123 tab125 tab128 tab138 tab144 tab151 tab152 tab157 tab158 tab160 tab161 tab162
def putK (n : Nd) (nm : ByteArray) (v : Nd) : Nd :=
  if mem n.names nm then ⟨n.kind, n.num, n.text, n.names, n.kids.set (lbound n.names nm) v⟩
  else ⟨n.kind, n.num, n.text, n.names.take (lbound n.names nm) ++ (nm :: n.names.drop (lbound n.names nm)), n.kids.take (lbound n.names nm) ++ (v :: n.kids.drop (lbound n.names nm))⟩
def dropK (n : Nd) (nm : ByteArray) : Nd :=
  if mem n.names nm then ⟨n.kind, n.num, n.text, n.names.take (lbound n.names nm) ++ n.names.drop (lbound n.names nm + 1), n.kids.take (lbound n.names nm) ++ n.kids.drop (lbound n.names nm + 1)⟩ else n
theorem lbn_le (xs : List ByteArray) (nm : ByteArray) : lbound xs nm ≤ xs.length := List.countP_le_length
theorem putK_yes {n v : Nd} {nm : ByteArray} (h : mem n.names nm = true) : putK n nm v = ⟨n.kind, n.num, n.text, n.names, n.kids.set (lbound n.names nm) v⟩ := by unfold putK; rw [if_pos h]
theorem putK_no {n v : Nd} {nm : ByteArray} (h : mem n.names nm = false) : putK n nm v = ⟨n.kind, n.num, n.text, n.names.take (lbound n.names nm) ++ (nm :: n.names.drop (lbound n.names nm)), n.kids.take (lbound n.names nm) ++ (v :: n.kids.drop (lbound n.names nm))⟩ := by unfold putK; rw [h]; rfl
theorem dropK_yes {n : Nd} {nm : ByteArray} (h : mem n.names nm = true) : dropK n nm = ⟨n.kind, n.num, n.text, n.names.take (lbound n.names nm) ++ n.names.drop (lbound n.names nm + 1), n.kids.take (lbound n.names nm) ++ n.kids.drop (lbound n.names nm + 1)⟩ := by unfold dropK; rw [if_pos h]
theorem dropK_no {n : Nd} {nm : ByteArray} (h : mem n.names nm = false) : dropK n nm = n := by unfold dropK; rw [h]; rfl
end Go.Proofs.YtfjaobfaepjfnaaDoor.Eng
namespace Go.Proofs.YtfjaobfaepjfnaaDoor.Eng
open Go Go.RowKit
section
variable {P : Program} {T : Tab} {k0 : Nat} {md : List Nat} {Av : Nat → Prop} {pc : Pc} {ops : Array Oper} {K : ASt → Prop} {o : Oper} {l : List Oper} {s : ASt} {f : FuncId} {xs : List Operand} {args : List AV}
end
end Go.Proofs.YtfjaobfaepjfnaaDoor.Eng
namespace Go.Proofs.YtfjaobfaepjfnaaDoor.Eng
open Go Go.RowKit
theorem asc_pw {xs : List ByteArray} : Asc xs ↔ xs.Pairwise (fun a b => lt a b = true) := by
  rw [List.pairwise_iff_getElem]
  exact ⟨fun h i j hi hj hij => h i j hi hj hij, fun h i j hi hj hij => h i j hi hj hij⟩
theorem lt_tot {a b : ByteArray} (h : lt a b = false) (hn : a ≠ b) : lt b a = true := by
  rcases bl_cases a b with ⟨h1, h2, _, _, h3⟩ | ⟨h1, h2, _, _, h3⟩ | h'
  · exact absurd (show lt a b = true from h1) (by rw [h]; simp)
  · exact h2
  · exact absurd h' hn
theorem lb_split : ∀ {xs : List ByteArray} {s : ByteArray}, xs.Pairwise (fun a b => lt a b = true) → (∀ a ∈ xs.take (lbound xs s), lt a s = true) ∧ (∀ b ∈ xs.drop (lbound xs s), lt b s = false)
  | [], s, _ => ⟨fun a h => by simp at h, fun a h => by simp at h⟩
  | x :: t, s, h => by
    rw [List.pairwise_cons] at h
    have hlb : lbound (x :: t) s = lbound t s + if lt x s then 1 else 0 := by unfold lbound; rw [List.countP_cons]
    obtain ⟨i1, i2⟩ := lb_split (s := s) h.2
    cases hx : lt x s
    · have h0 : lbound t s = 0 := by
        unfold lbound
        rw [List.countP_eq_zero]
        intro y hy hys
        have := bl_trans _ _ _ (h.1 y hy) hys
        exact absurd (show lt x s = true from this) (by rw [hx]; simp)
      rw [hlb, hx, h0]
      rw [h0] at i2
      refine ⟨fun a ha => by simp at ha, fun b hb => ?_⟩
      simp at hb
      rcases hb with rfl | hb
      · exact hx
      · exact i2 b (by simpa using hb)
    · rw [hlb, hx]
      simp only [if_true, List.take_succ_cons, List.drop_succ_cons, List.mem_cons, forall_eq_or_imp]
      exact ⟨⟨hx, i1⟩, i2⟩
structure MapW (r : Nd) : Prop where
  kd : r.kind = 4
  nz : r.num = 0
  tz : r.text = ⟨#[]⟩
  asc : Asc r.names
  len : r.names.length = r.kids.length
def zK (r : Nd) : List (ByteArray × Nd) := r.names.zip r.kids
theorem zK_len {r : Nd} (h : MapW r) : (zK r).length = r.kids.length := by unfold zK; rw [List.length_zip, h.len, Nat.min_self]
theorem zK_in {r : Nd} (h : MapW r) {x : ByteArray} {v : Nd} (hm : (x, v) ∈ zK r) : mem r.names x = true ∧ kidOf r x = v := by
  obtain ⟨i, he⟩ := List.getElem?_of_mem hm
  unfold zK at he
  rw [List.getElem?_zip_eq_some] at he
  obtain ⟨e3, e4⟩ := he
  obtain ⟨h1, e1⟩ := List.getElem?_eq_some_iff.1 e3
  obtain ⟨h2, e2⟩ := List.getElem?_eq_some_iff.1 e4
  clear e3 e4
  dsimp only at e1 e2
  subst e1 e2
  have hlb := lb_at h.asc h1
  have hmm : mem r.names r.names[i] = true := mem_iff.2 (List.getElem_mem h1)
  refine ⟨hmm, ?_⟩
  rw [kidOf_yes hmm (by rw [hlb]; exact h2)]
  simp only [hlb]
theorem zK_of {r : Nd} (h : MapW r) {x : ByteArray} (hm : mem r.names x = true) : (x, kidOf r x) ∈ zK r := by
  obtain ⟨h1, h2⟩ := Go.Proofs.YtfjaobfaepjfnaaDoor.lb_lt h.asc hm
  have h3 : lbound r.names x < r.kids.length := by rw [← h.len]; exact h1
  rw [kidOf_yes hm h3]
  have : (zK r)[lbound r.names x]? = some (x, r.kids[lbound r.names x]) := by
    unfold zK
    rw [List.getElem?_zip_eq_some]
    exact ⟨by rw [List.getElem?_eq_getElem h1, h2], List.getElem?_eq_getElem h3⟩
  exact List.mem_of_getElem? this
theorem putK_w {r : Nd} (h : MapW r) (nm : ByteArray) (v : Nd) : MapW (putK r nm v) ∧ (nm, v) ∈ zK (putK r nm v) ∧ (∀ x w, x ≠ nm → (x, w) ∈ zK r → (x, w) ∈ zK (putK r nm v)) ∧ (∀ x, mem (putK r nm v).names x = true → x = nm ∨ mem r.names x = true) := by
  cases hm : mem r.names nm
  · rw [putK_no hm]
    have hle := lbn_le r.names nm
    have hl := h.len
    obtain ⟨s1, s2⟩ := lb_split (s := nm) (asc_pw.1 h.asc)
    have hz : zK ⟨r.kind, r.num, r.text, r.names.take (lbound r.names nm) ++ (nm :: r.names.drop (lbound r.names nm)), r.kids.take (lbound r.names nm) ++ (v :: r.kids.drop (lbound r.names nm))⟩ = (zK r).take (lbound r.names nm) ++ ((nm, v) :: (zK r).drop (lbound r.names nm)) := by
      unfold zK
      dsimp only
      rw [List.zip_append (by rw [List.length_take, List.length_take]; omega), List.zip_cons_cons]
      congr 1
      · exact (List.take_zipWith ..).symm
      · congr 1; exact (List.drop_zipWith ..).symm
    refine ⟨⟨h.kd, h.nz, h.tz, ?_, by dsimp only; simp only [List.length_append, List.length_cons, List.length_take, List.length_drop]; omega⟩, ?_, fun x w hx hxw => ?_, fun x hx => ?_⟩
    · rw [asc_pw]
      dsimp only
      have hp := asc_pw.1 h.asc
      rw [← List.take_append_drop (lbound r.names nm) r.names, List.pairwise_append] at hp
      rw [List.pairwise_append, List.pairwise_cons]
      have hb : ∀ b ∈ r.names.drop (lbound r.names nm), lt nm b = true := fun b hb => lt_tot (s2 b hb) (fun e => by
        subst e
        have := mem_iff.2 (List.mem_of_mem_drop hb)
        rw [hm] at this; cases this)
      refine ⟨hp.1, ⟨hb, hp.2.1⟩, fun a ha b hb' => ?_⟩
      rcases List.mem_cons.1 hb' with rfl | hb'
      · exact s1 a ha
      · exact hp.2.2 a ha b hb'
    · rw [hz]; simp
    · rw [hz]
      rw [← List.take_append_drop (lbound r.names nm) (zK r)] at hxw
      rcases List.mem_append.1 hxw with h | h
      · exact List.mem_append.2 (.inl h)
      · exact List.mem_append.2 (.inr (List.mem_cons.2 (.inr h)))
    · rw [mem_iff] at hx
      dsimp only at hx
      rw [List.mem_append, List.mem_cons] at hx
      rcases hx with hx | rfl | hx
      · exact .inr (mem_iff.2 (List.mem_of_mem_take hx))
      · exact .inl rfl
      · exact .inr (mem_iff.2 (List.mem_of_mem_drop hx))
  · rw [putK_yes hm]
    obtain ⟨h1, h2⟩ := Go.Proofs.YtfjaobfaepjfnaaDoor.lb_lt h.asc hm
    have h3 : lbound r.names nm < r.kids.length := by rw [← h.len]; exact h1
    have hW : MapW ⟨r.kind, r.num, r.text, r.names, r.kids.set (lbound r.names nm) v⟩ := ⟨h.kd, h.nz, h.tz, h.asc, by dsimp only; rw [List.length_set]; exact h.len⟩
    refine ⟨hW, ?_, fun x w hx hxw => ?_, fun x hx => .inr hx⟩
    · have : (zK ⟨r.kind, r.num, r.text, r.names, r.kids.set (lbound r.names nm) v⟩)[lbound r.names nm]? = some (nm, v) := by
        unfold zK
        rw [List.getElem?_zip_eq_some]
        exact ⟨by dsimp only; rw [List.getElem?_eq_getElem h1, h2], by dsimp only; rw [List.getElem?_set_self h3]⟩
      exact List.mem_of_getElem? this
    · obtain ⟨i, hi⟩ := List.getElem?_of_mem hxw
      unfold zK at hi
      rw [List.getElem?_zip_eq_some] at hi
      have hne : lbound r.names nm ≠ i := fun e => by
        subst e
        have := hi.1
        dsimp only at this
        rw [List.getElem?_eq_getElem h1, h2] at this
        exact hx (Option.some.inj this).symm
      have : (zK ⟨r.kind, r.num, r.text, r.names, r.kids.set (lbound r.names nm) v⟩)[i]? = some (x, w) := by
        unfold zK
        rw [List.getElem?_zip_eq_some]
        exact ⟨hi.1, by dsimp only; rw [List.getElem?_set_ne hne]; exact hi.2⟩
      exact List.mem_of_getElem? this
theorem dropK_w {r : Nd} (h : MapW r) (nm : ByteArray) : MapW (dropK r nm) ∧ mem (dropK r nm).names nm = false ∧ (∀ x w, x ≠ nm → (x, w) ∈ zK r → (x, w) ∈ zK (dropK r nm)) ∧ (∀ x, mem (dropK r nm).names x = true → x ≠ nm ∧ mem r.names x = true) := by
  cases hm : mem r.names nm
  · rw [dropK_no hm]
    exact ⟨h, hm, fun x w _ hx => hx, fun x hx => ⟨(fun e => by subst e; rw [hm] at hx; cases hx), hx⟩⟩
  · rw [dropK_yes hm]
    obtain ⟨h1, h2⟩ := Go.Proofs.YtfjaobfaepjfnaaDoor.lb_lt h.asc hm
    have h3 : lbound r.names nm < r.kids.length := by rw [← h.len]; exact h1
    have hl := h.len
    have hp := asc_pw.1 h.asc
    have hsp : r.names = r.names.take (lbound r.names nm) ++ (nm :: r.names.drop (lbound r.names nm + 1)) := by
      conv => lhs; rw [← List.take_append_drop (lbound r.names nm) r.names, List.drop_eq_getElem_cons h1, h2]
    have hp2 := hp
    rw [hsp, List.pairwise_append, List.pairwise_cons] at hp2
    obtain ⟨p1, ⟨p2, p3⟩, p4⟩ := hp2
    have hin : ∀ x, x ∈ r.names.take (lbound r.names nm) ++ r.names.drop (lbound r.names nm + 1) → x ≠ nm ∧ x ∈ r.names := fun x hx => by
      rcases List.mem_append.1 hx with hx | hx
      · refine ⟨fun e => ?_, List.mem_of_mem_take hx⟩
        subst e
        have := p4 x hx x (by simp)
        rw [lt_irr] at this; cases this
      · refine ⟨fun e => ?_, List.mem_of_mem_drop hx⟩
        subst e
        have := p2 x hx
        rw [lt_irr] at this; cases this
    refine ⟨⟨h.kd, h.nz, h.tz, ?_, by dsimp only; simp only [List.length_append, List.length_take, List.length_drop]; omega⟩, ?_, fun x w hx hxw => ?_, fun x hx => ?_⟩
    · rw [asc_pw]
      dsimp only
      rw [List.pairwise_append]
      exact ⟨p1, p3, fun a ha b hb => p4 a ha b (by simp [hb])⟩
    · exact mem_no (fun hx => (hin nm hx).1 rfl)
    · have hz : zK ⟨r.kind, r.num, r.text, r.names.take (lbound r.names nm) ++ r.names.drop (lbound r.names nm + 1), r.kids.take (lbound r.names nm) ++ r.kids.drop (lbound r.names nm + 1)⟩ = (zK r).take (lbound r.names nm) ++ (zK r).drop (lbound r.names nm + 1) := by
        unfold zK
        dsimp only
        rw [List.zip_append (by rw [List.length_take, List.length_take]; omega)]
        congr 1
        · exact (List.take_zipWith ..).symm
        · exact (List.drop_zipWith ..).symm
      rw [hz]
      have hzl : lbound r.names nm < (zK r).length := by rw [zK_len h]; exact h3
      have hzg : (zK r)[lbound r.names nm] = (nm, r.kids[lbound r.names nm]) := by
        have : (zK r)[lbound r.names nm]? = some (nm, r.kids[lbound r.names nm]) := by
          unfold zK
          rw [List.getElem?_zip_eq_some]
          exact ⟨by rw [List.getElem?_eq_getElem h1, h2], List.getElem?_eq_getElem h3⟩
        rw [List.getElem?_eq_getElem hzl] at this
        exact Option.some.inj this
      rw [← List.take_append_drop (lbound r.names nm) (zK r), List.drop_eq_getElem_cons hzl, hzg] at hxw
      rcases List.mem_append.1 hxw with hq | hq
      · exact List.mem_append.2 (.inl hq)
      · rcases List.mem_cons.1 hq with hq | hq
        · exact absurd (congrArg Prod.fst hq) hx
        · exact List.mem_append.2 (.inr hq)
    · have := hin x (mem_iff.1 hx)
      exact ⟨this.1, mem_iff.2 this.2⟩
theorem kidOf_put {r : Nd} (h : MapW r) (nm : ByteArray) (v : Nd) (x : ByteArray) : kidOf (putK r nm v) x = if x = nm then v else kidOf r x := by
  obtain ⟨h1, h2, h3, h4⟩ := putK_w h nm v
  by_cases e : x = nm
  · subst e; rw [if_pos rfl]; exact (zK_in h1 h2).2
  · rw [if_neg e]
    cases hm : mem r.names x
    · have : mem (putK r nm v).names x = false := by
        cases hq : mem (putK r nm v).names x
        · rfl
        · rcases h4 x hq with h | h
          · exact absurd h e
          · rw [hm] at h; cases h
      rw [kidOf_no this, kidOf_no hm]
    · exact (zK_in h1 (h3 x _ e (zK_of h hm))).2
theorem kidOf_drop {r : Nd} (h : MapW r) (nm : ByteArray) (x : ByteArray) : kidOf (dropK r nm) x = if x = nm then Nd.zero else kidOf r x := by
  obtain ⟨h1, h2, h3, h4⟩ := dropK_w h nm
  by_cases e : x = nm
  · subst e; rw [if_pos rfl]; exact kidOf_no h2
  · rw [if_neg e]
    cases hm : mem r.names x
    · have : mem (dropK r nm).names x = false := by
        cases hq : mem (dropK r nm).names x
        · rfl
        · rw [(h4 x hq).2] at hm; cases hm
      rw [kidOf_no this, kidOf_no hm]
    · exact (zK_in h1 (h3 x _ e (zK_of h hm))).2
theorem putK_kids {r v k : Nd} {nm : ByteArray} (h : k ∈ (putK r nm v).kids) : k = v ∨ k ∈ r.kids := by
  cases hm : mem r.names nm
  · rw [putK_no hm] at h
    rcases List.mem_append.1 h with h | h
    · exact .inr (List.mem_of_mem_take h)
    · rcases List.mem_cons.1 h with h | h
      · exact .inl h
      · exact .inr (List.mem_of_mem_drop h)
  · rw [putK_yes hm] at h
    exact (List.mem_or_eq_of_mem_set h).symm
theorem dropK_kids {r k : Nd} {nm : ByteArray} (h : k ∈ (dropK r nm).kids) : k ∈ r.kids := by
  cases hm : mem r.names nm
  · rw [dropK_no hm] at h; exact h
  · rw [dropK_yes hm] at h
    rcases List.mem_append.1 h with h | h
    · exact List.mem_of_mem_take h
    · exact List.mem_of_mem_drop h
theorem putK_klen {r v : Nd} {nm : ByteArray} : (putK r nm v).kids.length ≤ r.kids.length + 1 := by
  cases hm : mem r.names nm
  · rw [putK_no hm]; simp; omega
  · rw [putK_yes hm]; simp
theorem dropK_klen {r : Nd} {nm : ByteArray} : (dropK r nm).kids.length ≤ r.kids.length := by
  cases hm : mem r.names nm
  · rw [dropK_no hm]; exact Nat.le_refl _
  · rw [dropK_yes hm]; simp; omega
def baseM (n : Nd) : Nd := if n.kind = 4 then n else ⟨4, 0, ⟨#[]⟩, [], []⟩
mutual
def mrg : Nd → Nd → Nd
  | ⟨kind, num, text, names, kids⟩, n => if kind = 4 then mrgL names kids (baseM n) else ⟨kind, num, text, names, kids⟩
def mrgL : List ByteArray → List Nd → Nd → Nd
  | _, [], r => r
  | ns, k :: ks, r => mrgL ns.tail ks (if k.kind = 0 then dropK r (ns.headD ⟨#[]⟩) else putK r (ns.headD ⟨#[]⟩) (mrg k (kidOf r (ns.headD ⟨#[]⟩))))
end
def stepN (r : Nd) (nm : ByteArray) (k : Nd) : Nd := if k.kind = 0 then dropK r nm else putK r nm (mrg k (kidOf r nm))
theorem mrg_map {p : Nd} (h : p.kind = 4) (n : Nd) : mrg p n = mrgL p.names p.kids (baseM n) := by cases p; rw [mrg, if_pos h]
theorem mrg_no {p : Nd} (h : p.kind ≠ 4) (n : Nd) : mrg p n = p := by cases p; rw [mrg, if_neg h]
theorem mrgL_step {ns : List ByteArray} {ks : List Nd} {i : Nat} (h1 : i < ns.length) (h2 : i < ks.length) (r : Nd) : mrgL (ns.drop i) (ks.drop i) r = mrgL (ns.drop (i + 1)) (ks.drop (i + 1)) (stepN r ns[i] ks[i]) := by
  rw [List.drop_eq_getElem_cons h1, List.drop_eq_getElem_cons h2, mrgL]
  rfl
theorem shp_zero : Shp Nd.zero := ⟨1, by simp [shapeB_eq, partsB, Nd.zero, shapeL]⟩
theorem base_w {n : Nd} (h : Shp n) : MapW (baseM n) := by
  unfold baseM
  split
  · rename_i h4
    have hp := h.parts
    unfold partsB at hp
    simp only [Bool.and_eq_true, Bool.or_eq_true, decide_eq_true_eq] at hp
    obtain ⟨⟨⟨h1, h2⟩, h3⟩, _⟩ := hp
    refine ⟨h4, by rcases h1 with h | h <;> omega, ?_, h.asc h4, ((h.map h4).2).symm⟩
    rcases h2 with h | h
    · omega
    · have ht : n.text.toList = [] := by simpa using h
      exact of_decide_eq_true (by rw [← beq_toList, ht]; decide +kernel)
  · exact ⟨rfl, rfl, rfl, fun i j hi => by simp at hi, rfl⟩
theorem base_kids {n : Nd} (h : Shp n) : (baseM n).kids.length ≤ 6 ∧ ∀ k ∈ (baseM n).kids, Shp k := by
  unfold baseM
  split
  · exact ⟨h.kids, fun k hk => h.kid hk⟩
  · exact ⟨by simp, fun k hk => by cases hk⟩
theorem base_old {n : Nd} (h : Shp n) (x : ByteArray) : Shp (kidOf (baseM n) x) := by
  have hw := base_w h
  cases hm : mem (baseM n).names x
  · rw [kidOf_no hm]; exact shp_zero
  · exact (base_kids h).2 _ (kidOf_mem hw.asc (by rw [hw.len]; exact Nat.le_refl _) hm)
structure Mid (n p : Nd) (i : Nat) (r : Nd) : Prop where
  w : MapW r
  wide : r.kids.length ≤ 6 + i
  sml : ∀ k ∈ r.kids, Sml k
  old : ∀ x, x ∉ p.names.take i → kidOf r x = kidOf (baseM n) x
theorem Mid.start {n : Nd} (h : Shp n) (p : Nd) : Mid n p 0 (baseM n) := ⟨base_w h, (base_kids h).1, fun k hk => ((base_kids h).2 k hk).sml, fun _ _ => rfl⟩
theorem fresh_name {p : Nd} (hp : Shp p) (h4 : p.kind = 4) {i : Nat} (hi : i < p.names.length) : p.names[i] ∉ p.names.take i := fun hm => by
  obtain ⟨j, hj, he⟩ := List.getElem_of_mem hm
  rw [List.length_take] at hj
  rw [List.getElem_take] at he
  have := hp.asc h4 j i (by omega) hi (by omega)
  rw [he, lt_irr] at this; cases this
theorem Mid.kid {n p r : Nd} {i : Nat} (h : Mid n p i r) (hp : Shp p) (h4 : p.kind = 4) (hn : Shp n) (hi : i < p.names.length) : kidOf r p.names[i] = kidOf (baseM n) p.names[i] := h.old _ (fresh_name hp h4 hi)
theorem Mid.step {n p r : Nd} {i : Nat} (h : Mid n p i r) (hi : i < p.names.length) (hk : i < p.kids.length) (hs : p.kids[i].kind ≠ 0 → Sml (mrg p.kids[i] (kidOf r p.names[i]))) : Mid n p (i + 1) (stepN r p.names[i] p.kids[i]) := by
  have hx : ∀ x, x ∉ p.names.take (i + 1) → x ≠ p.names[i] ∧ x ∉ p.names.take i := fun x hx => by
    rw [List.take_add_one, List.getElem?_eq_getElem hi, Option.toList_some, List.mem_append, List.mem_singleton] at hx
    exact ⟨fun e => hx (.inr e), fun e => hx (.inl e)⟩
  unfold stepN
  split
  · exact ⟨(dropK_w h.w _).1, by have := h.wide; have := dropK_klen (r := r) (nm := p.names[i]); omega, fun k hk => h.sml k (dropK_kids hk), fun x hxn => by
      rw [kidOf_drop h.w, if_neg (hx x hxn).1]; exact h.old x (hx x hxn).2⟩
  · rename_i h0
    exact ⟨(putK_w h.w _ _).1, by have := h.wide; have := putK_klen (r := r) (nm := p.names[i]) (v := mrg p.kids[i] (kidOf r p.names[i])); omega, fun k hk => by
      rcases putK_kids hk with rfl | hk
      · exact hs h0
      · exact h.sml k hk, fun x hxn => by
      rw [kidOf_put h.w, if_neg (hx x hxn).1]; exact h.old x (hx x hxn).2⟩
theorem Mid.smlR {n p r : Nd} {i : Nat} (h : Mid n p i r) (hi : i ≤ 6) : Sml r := .mk _ (by rw [h.w.len]; have := h.wide; omega) (by have := h.wide; omega) h.sml
theorem mrg_loop {n p : Nd} (hp : Shp p) (h4 : p.kind = 4) (I : Nat → Nd → Prop) (h0 : I 0 (baseM n)) (hs : ∀ i (hi : i < p.names.length) (hk : i < p.kids.length) r, I i r → I (i + 1) (stepN r p.names[i] p.kids[i])) : I p.kids.length (mrg p n) := by
  have hl := (hp.map h4).2
  have key : ∀ j, j ≤ p.kids.length → ∃ r, I j r ∧ mrgL (p.names.drop j) (p.kids.drop j) r = mrg p n := fun j => by
    induction j with
    | zero => exact fun _ => ⟨_, h0, by rw [mrg_map h4]; rfl⟩
    | succ j ih =>
      intro hj
      obtain ⟨r, h1, h2⟩ := ih (by omega)
      rw [mrgL_step (by omega) (by omega)] at h2
      exact ⟨_, hs j (by omega) (by omega) r h1, h2⟩
  obtain ⟨r, h1, h2⟩ := key _ (Nat.le_refl _)
  rw [List.drop_of_length_le (Nat.le_refl _), List.drop_of_length_le (by omega), mrgL] at h2
  rw [← h2]; exact h1
theorem mrg_sml : ∀ p, Shp p → ∀ n, Shp n → Sml (mrg p n) := Nd.ind' _ (fun p ih hp n hn => by
  by_cases h4 : p.kind = 4
  · have h6 := hp.kids
    refine Mid.smlR (n := n) (p := p) (mrg_loop hp h4 (Mid n p) (Mid.start hn p) (fun i hi hk r h => h.step hi hk (fun _ => ?_))) h6
    rw [h.kid hp h4 hn hi]
    exact ih _ (List.getElem_mem hk) (hp.kid (List.getElem_mem hk)) _ (base_old hn _)
  · rw [mrg_no h4]; exact hp.sml)
theorem Mid.next {n p r : Nd} {i : Nat} (h : Mid n p i r) (hp : Shp p) (h4 : p.kind = 4) (hn : Shp n) (hi : i < p.names.length) (hk : i < p.kids.length) : Mid n p (i + 1) (stepN r p.names[i] p.kids[i]) := h.step hi hk (fun _ => by
  rw [h.kid hp h4 hn hi]
  exact mrg_sml _ (hp.kid (List.getElem_mem hk)) _ (base_old hn _))
end Go.Proofs.YtfjaobfaepjfnaaDoor.Eng
-- EV: rows
namespace Go.Proofs.YtfjaobfaepjfnaaDoor.Eng
open Go Go.RowKit
attribute [local simp] big size_mk ASt.pay Option.map_map Function.comp_def awant aop acall ado aev ofVal ofVal0 ASt.put ASt.add ASt.turn ASt.kill abox aalloc astore aload aloadD astoreD idOf ASt.at cellsTo afieldAddr afield aindexAddr aindex alen abin aint acmp astr aun apick aextract anil aslice abound abuild afill abuildSlice asCells aps avCells over upd aappend asrc amax amin aconv mkSt slots rowsOf_cons rowsOf_nil usedOf_cons usedOf_nil ZK.av List.replicate ASt.back ASt.addL ASt.killL nodeA nodeT nodeTL_eq nodeL_eq strsE_get strsE_len intsE_get intsE_len strsE_at intsE_at nodeN namesRow nodeO kidsRow tab2 tab3 tab4 tab5 tab6 tab7 tab8 tab9 tab10 tab11 tab12 tab13 tab14 tab15 tab16 tab17 tab18 tab19 tab21 tab22 tab23 tab24 tab25 tab26 tab28 tab29 tab30 tab31 tab42 tab43 tab44 tab46 tab63 tab64 tab67 tab68 tab75 tab98 tab100 tab101 tab105 tab106 tab107 tab122 tab123 tab125 tab128 tab138 tab144 tab151 tab152 tab157 tab158 tab160 tab161 tab162
end Go.Proofs.YtfjaobfaepjfnaaDoor.Eng
-- EV: rows skip
namespace Go.Proofs.YtfjaobfaepjfnaaDoor.Eng
open Go Go.RowKit
attribute [local simp] big size_mk ASt.pay Option.map_map Function.comp_def awant aop acall ado aev ofVal ofVal0 ASt.put ASt.add ASt.turn ASt.kill abox aalloc astore aload aloadD astoreD idOf ASt.at cellsTo afieldAddr afield aindexAddr aindex alen abin aint acmp astr aun apick aextract anil aslice abound abuild afill abuildSlice asCells aps avCells over upd aappend asrc amax amin aconv mkSt slots rowsOf_cons rowsOf_nil usedOf_cons usedOf_nil ZK.av List.replicate ASt.back ASt.addL ASt.killL nodeA nodeT nodeTL_eq nodeL_eq strsE_get strsE_len intsE_get intsE_len strsE_at intsE_at nodeN namesRow nodeO kidsRow tab2 tab3 tab4 tab5 tab6 tab7 tab8 tab9 tab10 tab11 tab12 tab13 tab14 tab15 tab16 tab17 tab18 tab19 tab21 tab22 tab23 tab24 tab25 tab26 tab28 tab29 tab30 tab31 tab42 tab43 tab44 tab46 tab63 tab64 tab67 tab68 tab75 tab98 tab100 tab101 tab105 tab106 tab107 tab122 tab123 tab125 tab128 tab138 tab144 tab151 tab152 tab157 tab158 tab160 tab161 tab162
end Go.Proofs.YtfjaobfaepjfnaaDoor.Eng
-- EV: rows
namespace Go.Proofs.YtfjaobfaepjfnaaDoor.Eng
open Go Go.RowKit
attribute [local simp] big size_mk ASt.pay Option.map_map Function.comp_def awant aop acall ado aev ofVal ofVal0 ASt.put ASt.add ASt.turn ASt.kill abox aalloc astore aload aloadD astoreD idOf ASt.at cellsTo afieldAddr afield aindexAddr aindex alen abin aint acmp astr aun apick aextract anil aslice abound abuild afill abuildSlice asCells aps avCells over upd aappend asrc amax amin aconv mkSt slots rowsOf_cons rowsOf_nil usedOf_cons usedOf_nil ZK.av List.replicate ASt.back ASt.addL ASt.killL nodeA nodeT nodeTL_eq nodeL_eq strsE_get strsE_len intsE_get intsE_len strsE_at intsE_at nodeN namesRow nodeO kidsRow tab2 tab3 tab4 tab5 tab6 tab7 tab8 tab9 tab10 tab11 tab12 tab13 tab14 tab15 tab16 tab17 tab18 tab19 tab21 tab22 tab23 tab24 tab25 tab26 tab28 tab29 tab30 tab31 tab42 tab43 tab44 tab46 tab63 tab64 tab67 tab68 tab75 tab98 tab100 tab101 tab105 tab106 tab107 tab122 tab123 tab125 tab128 tab138 tab144 tab151 tab152 tab157 tab158 tab160 tab161 tab162
end Go.Proofs.YtfjaobfaepjfnaaDoor.Eng
-- EV: rows skip
namespace Go.Proofs.YtfjaobfaepjfnaaDoor.Eng
open Go Go.RowKit
attribute [local simp] big size_mk ASt.pay Option.map_map Function.comp_def awant aop acall ado aev ofVal ofVal0 ASt.put ASt.add ASt.turn ASt.kill abox aalloc astore aload aloadD astoreD idOf ASt.at cellsTo afieldAddr afield aindexAddr aindex alen abin aint acmp astr aun apick aextract anil aslice abound abuild afill abuildSlice asCells aps avCells over upd aappend asrc amax amin aconv mkSt slots rowsOf_cons rowsOf_nil usedOf_cons usedOf_nil ZK.av List.replicate ASt.back ASt.addL ASt.killL nodeA nodeT nodeTL_eq nodeL_eq strsE_get strsE_len intsE_get intsE_len strsE_at intsE_at nodeN namesRow nodeO kidsRow tab2 tab3 tab4 tab5 tab6 tab7 tab8 tab9 tab10 tab11 tab12 tab13 tab14 tab15 tab16 tab17 tab18 tab19 tab21 tab22 tab23 tab24 tab25 tab26 tab28 tab29 tab30 tab31 tab42 tab43 tab44 tab46 tab63 tab64 tab67 tab68 tab75 tab98 tab100 tab101 tab105 tab106 tab107 tab122 tab123 tab125 tab128 tab138 tab144 tab151 tab152 tab157 tab158 tab160 tab161 tab162
end Go.Proofs.YtfjaobfaepjfnaaDoor.Eng
namespace Go.Proofs.YtfjaobfaepjfnaaDoor.Eng
open Go Go.RowKit
attribute [local simp] big size_mk ASt.pay Option.map_map Function.comp_def awant aop acall ado aev ofVal ofVal0 ASt.put ASt.add ASt.turn ASt.kill abox aalloc astore aload aloadD astoreD idOf ASt.at cellsTo afieldAddr afield aindexAddr aindex alen abin aint acmp astr aun apick aextract anil aslice abound abuild afill abuildSlice asCells aps avCells over upd aappend asrc amax amin aconv mkSt slots rowsOf_cons rowsOf_nil usedOf_cons usedOf_nil ZK.av List.replicate ASt.back ASt.addL ASt.killL nodeA nodeT nodeTL_eq nodeL_eq strsE_get strsE_len intsE_get intsE_len strsE_at intsE_at tab2 tab3 tab4 tab5 tab6 tab7 tab8 tab9 tab10 tab11 tab12 tab13 tab14 tab15 tab16 tab17 tab18 tab19 tab21 tab22 tab23 tab24 tab25 tab26 tab28 tab29 tab30 tab31 tab42 tab43 tab44 tab46 tab63 tab64 tab67 tab68 tab75 tab98 tab100 tab101 tab105 tab106 tab107 tab122 tab123 tab125 tab128 tab138 tab144 tab151 tab152 tab157 tab158 tab160 tab161 tab162
end Go.Proofs.YtfjaobfaepjfnaaDoor.Eng
-- EV: rows skip
namespace Go.Proofs.YtfjaobfaepjfnaaDoor.Eng
open Go Go.RowKit
attribute [local simp] big size_mk ASt.pay Option.map_map Function.comp_def awant aop acall ado aev ofVal ofVal0 ASt.put ASt.add ASt.turn ASt.kill abox aalloc astore aload aloadD astoreD idOf ASt.at cellsTo afieldAddr afield aindexAddr aindex alen abin aint acmp astr aun apick aextract anil aslice abound abuild afill abuildSlice asCells aps avCells over upd aappend asrc amax amin aconv mkSt slots rowsOf_cons rowsOf_nil usedOf_cons usedOf_nil ZK.av List.replicate ASt.back ASt.addL ASt.killL nodeA nodeT nodeTL_eq nodeL_eq strsE_get strsE_len intsE_get intsE_len strsE_at intsE_at nodeN namesRow nodeO kidsRow tab2 tab3 tab4 tab5 tab6 tab7 tab8 tab9 tab10 tab11 tab12 tab13 tab14 tab15 tab16 tab17 tab18 tab19 tab21 tab22 tab23 tab24 tab25 tab26 tab28 tab29 tab30 tab31 tab42 tab43 tab44 tab46 tab63 tab64 tab67 tab68 tab75 tab98 tab100 tab101 tab105 tab106 tab107 tab122 tab123 tab125 tab128 tab138 tab144 tab151 tab152 tab157 tab158 tab160 tab161 tab162
end Go.Proofs.YtfjaobfaepjfnaaDoor.Eng
namespace Go.Proofs.YtfjaobfaepjfnaaDoor.Eng
open Go Go.RowKit
theorem countL_take {l : List Nd} {i : Nat} (h : i < l.length) : countL (l.take (i + 1)) = countL (l.take i) + l[i].count := by
  rw [List.take_add_one, List.getElem?_eq_getElem h, Option.toList_some, countL_snoc]
end Go.Proofs.YtfjaobfaepjfnaaDoor.Eng
namespace Go.Proofs.YtfjaobfaepjfnaaDoor.Eng
open Go Go.RowKit
theorem Shp.kd {m : Nd} (h : Shp m) {k : Nat} (hk : k < m.kids.length) : m.kind = 4 ∨ m.kind = 3 := by
  by_cases h4 : m.kind = 4
  · exact .inl h4
  · by_cases h3 : m.kind = 3
    · exact .inr h3
    · have := h.leaf h4 h3; omega
end Go.Proofs.YtfjaobfaepjfnaaDoor.Eng
-- EV: fresh
namespace Go.Proofs.YtfjaobfaepjfnaaDoor.Eng
open Go Go.RowKit
attribute [local simp] big size_mk ASt.pay Option.map_map Function.comp_def awant aop acall ado aev ofVal ofVal0 ASt.put ASt.add ASt.turn ASt.kill abox aalloc astore aload aloadD astoreD idOf ASt.at cellsTo afieldAddr afield aindexAddr aindex alen abin aint acmp astr aun apick aextract anil aslice abound abuild afill abuildSlice asCells aps avCells over upd aappend asrc amax amin aconv mkSt slots rowsOf_cons rowsOf_nil usedOf_cons usedOf_nil ZK.av List.replicate ASt.back ASt.addL ASt.killL nodeA nodeT nodeTL_eq nodeL_eq strsE_get strsE_len intsE_get intsE_len strsE_at intsE_at tab2 tab3 tab4 tab5 tab6 tab7 tab8 tab9 tab10 tab11 tab12 tab13 tab14 tab15 tab16 tab17 tab18 tab19 tab21 tab22 tab23 tab24 tab25 tab26 tab28 tab29 tab30 tab31 tab42 tab43 tab44 tab46 tab63 tab64 tab67 tab68 tab75 tab98 tab100 tab101 tab105 tab106 tab107 tab122 tab123 tab125 tab128 tab138 tab144 tab151 tab152 tab157 tab158 tab160 tab161 tab162
def ckN (m : Nd) : Option Nd := if validB m then some m else none
def setO (n : Nd) (p : List ByteArray) (v : Nd) : Option Nd := if validB n && pathB p && validB v then (setS n p v).bind ckN else none
set_option maxRecDepth 100000
set_option maxHeartbeats 8000000
theorem setKF (v m : Nd) (hv : Sml v) : ACF Tryd.prog 80 [nodeA m, .eptr .loose (nodeL v)] 0 (rNB v true) := by
  have p4 := implCopyF_ACF v hv
  refine ACF.weak ?_
  unfold nodeA at p4 ⊢
  rw [nodeL_eq] at p4
  rw [nodeL_eq m, nodeL_eq v]
  refine ACF.of tab_ok mixed_ok Tryd.func80 (by rfl) (by kernel_rfl) ?_; rintro ⟨P, T, hT, hm, w0, S0, rd0, k0⟩ hP hTT hN; dsimp only at hP hTT hN; subst hP hTT; dsimp only; unfold initSt; rw [Tryd.ntmps80]
  (repeat (first | with_reducible refine AW.seq ?_ | ((first | refine arun_kn 4 rfl (fun C hC => ?_) | refine arunD_kn 4 rfl (fun C hC => ?_)); (repeat ((conv => whnf); simp)); refine hC _ ?_; clear hC C; simp only [List.drop, Nat.reduceAdd]) | ((first | refine arun_kn 1 rfl (fun C hC => ?_) | refine arunD_kn 1 rfl (fun C hC => ?_)); (repeat ((conv => whnf); simp)); refine hC _ ?_; clear hC C; simp only [List.drop, Nat.reduceAdd]) | (refine arun_skip ?_ ?_; (focus (simp [awant]; done))) | (refine arun_cF (0) (p4) ?_; (rintro _ ⟨l, hl, hlp, rfl⟩ hA)) | (refine arunD_cF (0) (p4) (by refine ⟨_, rfl, ?_⟩; first | exact node_in _ | exact storeA_in _ | exact item_in _ | exact in_int | exact in_bool | exact in_str | (simp [NoId, in_tup, in_agg, in_int, in_bool, in_str, node_in, nodes_in, strs_in]; done)) ?_; (rintro _ ⟨l, hl, hlp, rfl⟩ hA); intro _) | (refine AW.regionK [] (fun K hK => ?_)) | (refine AW.regionDK [] (pcs [] []) (by kernel_rfl) (by kernel_rfl) (fun K hK => ?_)) | (refine AW.condT ?_ ?_; (focus (simp [aev]; done))) | (refine AW.condF ?_ ?_; (focus (simp [aev]; done))) | with_reducible refine AW.block ?_ | ((first | ((first | refine arun_nil ?_ | refine arunD_nil ?_); refine hK _ ?_; clear hK K) | refine AW.skip ?_ | refine AW.exit ?_ | refine AW.ret ?_); simp only [thenA_exit, inBlockA_exit, if_true, if_false, Nat.reduceEqDiff, thenA_normal, inBlockA_normal, reduceIte, thenA_ret, inBlockA_ret, endQ_ret, endR_ret, endG_ret, endQ_normal, endR_normal, endG_normal, endF_ret, endF_normal])))
  have hA' : ∀ b ∈ l.fp, ¬ w0.A b := fun b hb => hA b (by rw [at_agg, ← labL_eq]; exact hb)
  exact ⟨.tup [labA l, .bool true], by simp [labA, labL_eq, ares, aresL, upd, rowsOf_cons], tup2_pur (lab_pur l) pur_bool, fun b hb => by rw [at_tup2] at hb; exact hN.ge (hA' b hb), _, Wk.refl _, fun _ h => h, l, hl, hlp, rfl⟩
theorem checkedF_no (l : Lb) (b : Bool) (h : (b && validB l.nd) = false) : AC Tryd.prog 79 [.agg [.int .i64 l.kind, .int .i64 l.num, .str l.text, .view (.fr l.nb) 1 (strsE l.names), .view (.fr l.kb) 5 (l.kids.map labL)], .bool b] 0 (fun r => r = .tup [.agg [.int .i64 0, .int .i64 0, .str ⟨#[]⟩, .view .tight 0 [], .view .tight 0 []], .bool false]) := by
  have p1 : AC Tryd.prog 41 [labA l] 0 (fun r => r = .bool (validB l.nd)) := AC.arg (ValidNode_AC l.nd .loose) (.cons (by rw [nodeT_loose]; exact .agg (labL_wk l)) .nil)
  have hc := lab_clo l
  unfold labA at p1 hc
  rw [labL_eq] at p1 hc
  refine AC.of tab_ok mixed_ok Tryd.func79 (by rfl) (by kernel_rfl) ?_; rintro ⟨P, T, hT, hm, w0, S0, rd0, k0⟩ hP hTT; dsimp only at hP hTT; subst hP hTT; unfold initSt; rw [Tryd.ntmps79]
  cases b
  · (repeat (first | with_reducible refine AW.seq ?_ | ((first | refine arun_kn 4 rfl (fun C hC => ?_) | refine arunD_kn 4 rfl (fun C hC => ?_)); (repeat ((conv => whnf); simp)); refine hC _ ?_; clear hC C; simp only [List.drop, Nat.reduceAdd]) | ((first | refine arun_kn 1 rfl (fun C hC => ?_) | refine arunD_kn 1 rfl (fun C hC => ?_)); (repeat ((conv => whnf); simp)); refine hC _ ?_; clear hC C; simp only [List.drop, Nat.reduceAdd]) | (refine arun_skip ?_ ?_; (focus (simp [awant]; done))) | (refine AW.regionK [] (fun K hK => ?_)) | (refine AW.regionDK [] (pcs [] []) (by kernel_rfl) (by kernel_rfl) (fun K hK => ?_)) | (refine AW.condT ?_ ?_; (focus (simp [aev]; done))) | (refine AW.condF ?_ ?_; (focus (simp [aev]; done))) | with_reducible refine AW.block ?_ | ((first | ((first | refine arun_nil ?_ | refine arunD_nil ?_); refine hK _ ?_; clear hK K) | refine AW.skip ?_ | refine AW.exit ?_ | refine AW.ret ?_); simp only [thenA_exit, inBlockA_exit, if_true, if_false, Nat.reduceEqDiff, thenA_normal, inBlockA_normal, reduceIte, thenA_ret, inBlockA_ret, endQ_ret, endR_ret, endG_ret, endQ_normal, endR_normal, endG_normal, endF_ret, endF_normal])))
    exact ⟨.tup [.agg [.int .i64 0, .int .i64 0, .str ⟨#[]⟩, .view .tight 0 [], .view .tight 0 []], .bool false], by simp [ares, aresL, upd, rowsOf_cons], none_end.1, rfl⟩
  · rw [Bool.true_and] at h
    rw [h] at p1
    (repeat (first | with_reducible refine AW.seq ?_ | ((first | refine arun_kn 4 rfl (fun C hC => ?_) | refine arunD_kn 4 rfl (fun C hC => ?_)); (repeat ((conv => whnf); simp)); refine hC _ ?_; clear hC C; simp only [List.drop, Nat.reduceAdd]) | ((first | refine arun_kn 1 rfl (fun C hC => ?_) | refine arunD_kn 1 rfl (fun C hC => ?_)); (repeat ((conv => whnf); simp)); refine hC _ ?_; clear hC C; simp only [List.drop, Nat.reduceAdd]) | (refine arun_skip ?_ ?_; (focus (simp [awant]; done))) | (refine arun_c0 (p1) ?_; rintro _ rfl) | (refine AW.regionK [] (fun K hK => ?_)) | (refine AW.regionDK [] (pcs [] []) (by kernel_rfl) (by kernel_rfl) (fun K hK => ?_)) | (refine AW.condT ?_ ?_; (focus (simp [aev]; done))) | (refine AW.condF ?_ ?_; (focus (simp [aev]; done))) | with_reducible refine AW.block ?_ | ((first | ((first | refine arun_nil ?_ | refine arunD_nil ?_); refine hK _ ?_; clear hK K) | refine AW.skip ?_ | refine AW.exit ?_ | refine AW.ret ?_); simp only [thenA_exit, inBlockA_exit, if_true, if_false, Nat.reduceEqDiff, thenA_normal, inBlockA_normal, reduceIte, thenA_ret, inBlockA_ret, endQ_ret, endR_ret, endG_ret, endQ_normal, endR_normal, endG_normal, endF_ret, endF_normal])))
    exact ⟨.tup [.agg [.int .i64 0, .int .i64 0, .str ⟨#[]⟩, .view .tight 0 [], .view .tight 0 []], .bool false], by simp [ares, aresL, upd, rowsOf_cons], none_end.1, rfl⟩
theorem checkedF_yes (l : Lb) (h : validB l.nd = true) : AC Tryd.prog 79 [.agg [.int .i64 l.kind, .int .i64 l.num, .str l.text, .view (.fr l.nb) 1 (strsE l.names), .view (.fr l.kb) 5 (l.kids.map labL)], .bool true] 0 (fun r => r = .tup [.agg [.int .i64 l.kind, .int .i64 l.num, .str l.text, .view (.fr l.nb) 1 (strsE l.names), .view (.fr l.kb) 5 (l.kids.map labL)], .bool true]) := by
  have p1 : AC Tryd.prog 41 [labA l] 0 (fun r => r = .bool (validB l.nd)) := AC.arg (ValidNode_AC l.nd .loose) (.cons (by rw [nodeT_loose]; exact .agg (labL_wk l)) .nil)
  have hc := lab_clo l
  have hp := lab_pur l
  unfold labA at p1 hc hp
  rw [labL_eq] at p1 hc hp
  rw [h] at p1
  refine AC.of tab_ok mixed_ok Tryd.func79 (by rfl) (by kernel_rfl) ?_; rintro ⟨P, T, hT, hm, w0, S0, rd0, k0⟩ hP hTT; dsimp only at hP hTT; subst hP hTT; unfold initSt; rw [Tryd.ntmps79]
  (repeat (first | with_reducible refine AW.seq ?_ | ((first | refine arun_kn 4 rfl (fun C hC => ?_) | refine arunD_kn 4 rfl (fun C hC => ?_)); (repeat ((conv => whnf); simp)); refine hC _ ?_; clear hC C; simp only [List.drop, Nat.reduceAdd]) | ((first | refine arun_kn 1 rfl (fun C hC => ?_) | refine arunD_kn 1 rfl (fun C hC => ?_)); (repeat ((conv => whnf); simp)); refine hC _ ?_; clear hC C; simp only [List.drop, Nat.reduceAdd]) | (refine arun_skip ?_ ?_; (focus (simp [awant]; done))) | (refine arun_c0 (p1) ?_; rintro _ rfl) | (refine AW.regionK [] (fun K hK => ?_)) | (refine AW.regionDK [] (pcs [] []) (by kernel_rfl) (by kernel_rfl) (fun K hK => ?_)) | (refine AW.condT ?_ ?_; (focus (simp [aev]; done))) | (refine AW.condF ?_ ?_; (focus (simp [aev]; done))) | with_reducible refine AW.block ?_ | ((first | ((first | refine arun_nil ?_ | refine arunD_nil ?_); refine hK _ ?_; clear hK K) | refine AW.skip ?_ | refine AW.exit ?_ | refine AW.ret ?_); simp only [thenA_exit, inBlockA_exit, if_true, if_false, Nat.reduceEqDiff, thenA_normal, inBlockA_normal, reduceIte, thenA_ret, inBlockA_ret, endQ_ret, endR_ret, endG_ret, endQ_normal, endR_normal, endG_normal, endF_ret, endF_normal])))
  exact ⟨.tup [.agg [.int .i64 l.kind, .int .i64 l.num, .str l.text, .view (.fr l.nb) 1 (strsE l.names), .view (.fr l.kb) 5 (l.kids.map labL)], .bool true], by simp [ares, aresL, upd, rowsOf_cons], tup2_pur hp pur_bool, rfl⟩
theorem SetNode_ACF (t : VC) (n : Nd) (p : List ByteArray) (v : Nd) : ACF Tryd.prog 38 [nodeA n, .view t 1 (strsE p), nodeA v] 0 (rNB ((setO n p v).getD Nd.zero) (setO n p v).isSome) := by
  refine ACF.weak ?_
  have p1 := ValidNode_AC n .loose
  have p2 := isPath_AC p t
  have p3 := ValidNode_AC v .loose
  have hcn := node_clo n
  have hcv : Clo (.fn 80 [.eptr .loose (nodeL v)]) := clo_fn (fun c hc => by
    rw [List.mem_singleton.1 hc]
    exact clo_eptr (fun c hc => (nodeL_pur v c hc).clo))
  unfold nodeA at hcn ⊢
  rw [nodeL_eq n] at hcn ⊢
  rw [nodeL_eq v] at hcv ⊢
  refine ACF.of tab_ok mixed_ok Tryd.func38 (by rfl) (by kernel_rfl) ?_; rintro ⟨P, T, hT, hm, w0, S0, rd0, k0⟩ hP hTT hN; dsimp only at hP hTT hN; subst hP hTT; dsimp only; unfold initSt; rw [Tryd.ntmps38]
  (repeat (first | with_reducible refine AW.seq ?_ | ((first | refine arun_kn 4 rfl (fun C hC => ?_) | refine arunD_kn 4 rfl (fun C hC => ?_)); (repeat ((conv => whnf); simp)); refine hC _ ?_; clear hC C; simp only [List.drop, Nat.reduceAdd]) | ((first | refine arun_kn 1 rfl (fun C hC => ?_) | refine arunD_kn 1 rfl (fun C hC => ?_)); (repeat ((conv => whnf); simp)); refine hC _ ?_; clear hC C; simp only [List.drop, Nat.reduceAdd]) | (refine arun_skip ?_ ?_; (focus (simp [awant]; done))) | (refine AW.condT ?_ ?_; (focus (simp [aev]; done))) | (refine AW.condF ?_ ?_; (focus (simp [aev]; done))) | with_reducible refine AW.block ?_ | ((first | ((first | refine arun_nil ?_ | refine arunD_nil ?_); refine hK _ ?_; clear hK K) | refine AW.skip ?_ | refine AW.exit ?_ | refine AW.ret ?_); simp only [thenA_exit, inBlockA_exit, if_true, if_false, Nat.reduceEqDiff, thenA_normal, inBlockA_normal, reduceIte, thenA_ret, inBlockA_ret, endQ_ret, endR_ret, endG_ret, endQ_normal, endR_normal, endG_normal, endF_ret, endF_normal])))
  refine AW.regionK [] (fun K hK => ?_)
  (repeat (first | with_reducible refine AW.seq ?_ | ((first | refine arun_kn 4 rfl (fun C hC => ?_) | refine arunD_kn 4 rfl (fun C hC => ?_)); (repeat ((conv => whnf); simp)); refine hC _ ?_; clear hC C; simp only [List.drop, Nat.reduceAdd]) | ((first | refine arun_kn 1 rfl (fun C hC => ?_) | refine arunD_kn 1 rfl (fun C hC => ?_)); (repeat ((conv => whnf); simp)); refine hC _ ?_; clear hC C; simp only [List.drop, Nat.reduceAdd]) | (refine arun_skip ?_ ?_; (focus (simp [awant]; done))) | (refine AW.condT ?_ ?_; (focus (simp [aev]; done))) | (refine AW.condF ?_ ?_; (focus (simp [aev]; done))) | with_reducible refine AW.block ?_ | ((first | ((first | refine arun_nil ?_ | refine arunD_nil ?_); refine hK _ ?_; clear hK K) | refine AW.skip ?_ | refine AW.exit ?_ | refine AW.ret ?_); simp only [thenA_exit, inBlockA_exit, if_true, if_false, Nat.reduceEqDiff, thenA_normal, inBlockA_normal, reduceIte, thenA_ret, inBlockA_ret, endQ_ret, endR_ret, endG_ret, endQ_normal, endR_normal, endG_normal, endF_ret, endF_normal])))
  refine AW.holdBox 5 5 (r := ⟨true, 26, 5, [[.int .i64 v.kind, .int .i64 v.num, .str v.text, .view .loose 1 (strsE v.names), .view .loose 5 (v.kids.map nodeL)]]⟩) rfl (by simp [upd, rowsOf_cons]) rfl ?_
  unfold ASt.holdBox
  cases h1 : validB n <;> rw [h1] at p1
  · have e : setO n p v = none := by unfold setO; rw [h1]; rfl
    rw [e]
    (repeat (first | with_reducible refine AW.seq ?_ | ((first | refine arun_kn 4 rfl (fun C hC => ?_) | refine arunD_kn 4 rfl (fun C hC => ?_)); (repeat ((conv => whnf); simp)); refine hC _ ?_; clear hC C; simp only [List.drop, Nat.reduceAdd]) | ((first | refine arun_kn 1 rfl (fun C hC => ?_) | refine arunD_kn 1 rfl (fun C hC => ?_)); (repeat ((conv => whnf); simp)); refine hC _ ?_; clear hC C; simp only [List.drop, Nat.reduceAdd]) | (refine arun_skip ?_ ?_; (focus (simp [awant]; done))) | (refine arun_c0 (p1) ?_; rintro _ rfl) | (refine arun_c0 (p2) ?_; rintro _ rfl) | (refine arun_c0 (p3) ?_; rintro _ rfl) | (refine AW.regionK [] (fun K hK => ?_)) | (refine AW.regionDK [] (pcs [] []) (by kernel_rfl) (by kernel_rfl) (fun K hK => ?_)) | (refine AW.condT ?_ ?_; (focus (simp [aev]; done))) | (refine AW.condF ?_ ?_; (focus (simp [aev]; done))) | with_reducible refine AW.block ?_ | ((first | ((first | refine arun_nil ?_ | refine arunD_nil ?_); refine hK _ ?_; clear hK K) | refine AW.skip ?_ | refine AW.exit ?_ | refine AW.ret ?_); simp only [thenA_exit, inBlockA_exit, if_true, if_false, Nat.reduceEqDiff, thenA_normal, inBlockA_normal, reduceIte, thenA_ret, inBlockA_ret, endQ_ret, endR_ret, endG_ret, endQ_normal, endR_normal, endG_normal, endF_ret, endF_normal])))
    obtain ⟨z1, z2, z3⟩ := rNB_none (r := .tup [node0 0 0 ⟨#[]⟩, .bool false]) rfl
    exact ⟨.tup [node0 0 0 ⟨#[]⟩, .bool false], by simp [node0, ares, aresL, upd, rowsOf_cons], z1, z2 _, z3⟩
  cases h2 : pathB p <;> rw [h2] at p2
  · have e : setO n p v = none := by unfold setO; rw [h1, h2]; rfl
    rw [e]
    (repeat (first | with_reducible refine AW.seq ?_ | ((first | refine arun_kn 4 rfl (fun C hC => ?_) | refine arunD_kn 4 rfl (fun C hC => ?_)); (repeat ((conv => whnf); simp)); refine hC _ ?_; clear hC C; simp only [List.drop, Nat.reduceAdd]) | ((first | refine arun_kn 1 rfl (fun C hC => ?_) | refine arunD_kn 1 rfl (fun C hC => ?_)); (repeat ((conv => whnf); simp)); refine hC _ ?_; clear hC C; simp only [List.drop, Nat.reduceAdd]) | (refine arun_skip ?_ ?_; (focus (simp [awant]; done))) | (refine arun_c0 (p1) ?_; rintro _ rfl) | (refine arun_c0 (p2) ?_; rintro _ rfl) | (refine arun_c0 (p3) ?_; rintro _ rfl) | (refine AW.regionK [] (fun K hK => ?_)) | (refine AW.regionDK [] (pcs [] []) (by kernel_rfl) (by kernel_rfl) (fun K hK => ?_)) | (refine AW.condT ?_ ?_; (focus (simp [aev]; done))) | (refine AW.condF ?_ ?_; (focus (simp [aev]; done))) | with_reducible refine AW.block ?_ | ((first | ((first | refine arun_nil ?_ | refine arunD_nil ?_); refine hK _ ?_; clear hK K) | refine AW.skip ?_ | refine AW.exit ?_ | refine AW.ret ?_); simp only [thenA_exit, inBlockA_exit, if_true, if_false, Nat.reduceEqDiff, thenA_normal, inBlockA_normal, reduceIte, thenA_ret, inBlockA_ret, endQ_ret, endR_ret, endG_ret, endQ_normal, endR_normal, endG_normal, endF_ret, endF_normal])))
    obtain ⟨z1, z2, z3⟩ := rNB_none (r := .tup [node0 0 0 ⟨#[]⟩, .bool false]) rfl
    exact ⟨.tup [node0 0 0 ⟨#[]⟩, .bool false], by simp [node0, ares, aresL, upd, rowsOf_cons], z1, z2 _, z3⟩
  cases h3 : validB v <;> rw [h3] at p3
  · have e : setO n p v = none := by unfold setO; rw [h1, h2, h3]; rfl
    rw [e]
    (repeat (first | with_reducible refine AW.seq ?_ | ((first | refine arun_kn 4 rfl (fun C hC => ?_) | refine arunD_kn 4 rfl (fun C hC => ?_)); (repeat ((conv => whnf); simp)); refine hC _ ?_; clear hC C; simp only [List.drop, Nat.reduceAdd]) | ((first | refine arun_kn 1 rfl (fun C hC => ?_) | refine arunD_kn 1 rfl (fun C hC => ?_)); (repeat ((conv => whnf); simp)); refine hC _ ?_; clear hC C; simp only [List.drop, Nat.reduceAdd]) | (refine arun_skip ?_ ?_; (focus (simp [awant]; done))) | (refine arun_c0 (p1) ?_; rintro _ rfl) | (refine arun_c0 (p2) ?_; rintro _ rfl) | (refine arun_c0 (p3) ?_; rintro _ rfl) | (refine AW.regionK [] (fun K hK => ?_)) | (refine AW.regionDK [] (pcs [] []) (by kernel_rfl) (by kernel_rfl) (fun K hK => ?_)) | (refine AW.condT ?_ ?_; (focus (simp [aev]; done))) | (refine AW.condF ?_ ?_; (focus (simp [aev]; done))) | with_reducible refine AW.block ?_ | ((first | ((first | refine arun_nil ?_ | refine arunD_nil ?_); refine hK _ ?_; clear hK K) | refine AW.skip ?_ | refine AW.exit ?_ | refine AW.ret ?_); simp only [thenA_exit, inBlockA_exit, if_true, if_false, Nat.reduceEqDiff, thenA_normal, inBlockA_normal, reduceIte, thenA_ret, inBlockA_ret, endQ_ret, endR_ret, endG_ret, endQ_normal, endR_normal, endG_normal, endF_ret, endF_normal])))
    obtain ⟨z1, z2, z3⟩ := rNB_none (r := .tup [node0 0 0 ⟨#[]⟩, .bool false]) rfl
    exact ⟨.tup [node0 0 0 ⟨#[]⟩, .bool false], by simp [node0, ares, aresL, upd, rowsOf_cons], z1, z2 _, z3⟩
  have e : setO n p v = (setS n p v).bind ckN := by unfold setO; rw [h1, h2, h3]; rfl
  rw [e]
  have hch := changeAt_ACF 80 [.eptr .loose (nodeL v)] ⟨clo_eptr (fun c hc => (nodeL_pur v c hc).clo), trivial⟩ (fun c hc => by
    rw [List.mem_singleton.1 hc]
    exact in_eptr.2 (nodeL_in v)) (fun _ => some v) p n t (Shp.of h1) (fun m _ => setKF v m (Shp.of h3).sml)
  rw [chgS_set] at hch
  unfold nodeA at hch
  rw [nodeL_eq n, nodeL_eq v] at hch
  cases hs : setS n p v with
  | none =>
    rw [hs] at hch
    replace hch := hch.mono (fun r h => rNB_X h)
    rw [Option.bind_none]
    (repeat (first | with_reducible refine AW.seq ?_ | ((first | refine arun_kn 4 rfl (fun C hC => ?_) | refine arunD_kn 4 rfl (fun C hC => ?_)); (repeat ((conv => whnf); simp)); refine hC _ ?_; clear hC C; simp only [List.drop, Nat.reduceAdd]) | ((first | refine arun_kn 1 rfl (fun C hC => ?_) | refine arunD_kn 1 rfl (fun C hC => ?_)); (repeat ((conv => whnf); simp)); refine hC _ ?_; clear hC C; simp only [List.drop, Nat.reduceAdd]) | (refine arun_skip ?_ ?_; (focus (simp [awant]; done))) | (refine arun_c0 (p1) ?_; rintro _ rfl) | (refine arun_c0 (p2) ?_; rintro _ rfl) | (refine arun_c0 (p3) ?_; rintro _ rfl) | (refine arun_cF (0) (hch) ?_; (rintro _ ⟨l, hl, hlp, rfl⟩ hA)) | (refine arunD_cF (0) (hch) (by refine ⟨_, rfl, ?_⟩; first | exact node_in _ | exact storeA_in _ | exact item_in _ | exact in_int | exact in_bool | exact in_str | (simp [NoId, in_tup, in_agg, in_int, in_bool, in_str, node_in, nodes_in, strs_in]; done)) ?_; (rintro _ ⟨l, hl, hlp, rfl⟩ hA); intro _) | (refine AW.regionK [] (fun K hK => ?_)) | (refine AW.regionDK [] (pcs [] []) (by kernel_rfl) (by kernel_rfl) (fun K hK => ?_)) | (refine AW.condT ?_ ?_; (focus (simp [aev]; done))) | (refine AW.condF ?_ ?_; (focus (simp [aev]; done))) | with_reducible refine AW.block ?_ | ((first | ((first | refine arun_nil ?_ | refine arunD_nil ?_); refine hK _ ?_; clear hK K) | refine AW.skip ?_ | refine AW.exit ?_ | refine AW.ret ?_); simp only [thenA_exit, inBlockA_exit, if_true, if_false, Nat.reduceEqDiff, thenA_normal, inBlockA_normal, reduceIte, thenA_ret, inBlockA_ret, endQ_ret, endR_ret, endG_ret, endQ_normal, endR_normal, endG_normal, endF_ret, endF_normal])))
    have hcl := lab_clo l
    unfold labA at hcl
    rw [labL_eq] at hcl
    have p4 := checkedF_no l false rfl
    (repeat (first | with_reducible refine AW.seq ?_ | ((first | refine arun_kn 4 rfl (fun C hC => ?_) | refine arunD_kn 4 rfl (fun C hC => ?_)); (repeat ((conv => whnf); simp)); refine hC _ ?_; clear hC C; simp only [List.drop, Nat.reduceAdd]) | ((first | refine arun_kn 1 rfl (fun C hC => ?_) | refine arunD_kn 1 rfl (fun C hC => ?_)); (repeat ((conv => whnf); simp)); refine hC _ ?_; clear hC C; simp only [List.drop, Nat.reduceAdd]) | (refine arun_skip ?_ ?_; (focus (simp [awant]; done))) | (refine arun_c0 (p4) ?_; rintro _ rfl) | (refine AW.regionK [] (fun K hK => ?_)) | (refine AW.regionDK [] (pcs [] []) (by kernel_rfl) (by kernel_rfl) (fun K hK => ?_)) | (refine AW.condT ?_ ?_; (focus (simp [aev]; done))) | (refine AW.condF ?_ ?_; (focus (simp [aev]; done))) | with_reducible refine AW.block ?_ | ((first | ((first | refine arun_nil ?_ | refine arunD_nil ?_); refine hK _ ?_; clear hK K) | refine AW.skip ?_ | refine AW.exit ?_ | refine AW.ret ?_); simp only [thenA_exit, inBlockA_exit, if_true, if_false, Nat.reduceEqDiff, thenA_normal, inBlockA_normal, reduceIte, thenA_ret, inBlockA_ret, endQ_ret, endR_ret, endG_ret, endQ_normal, endR_normal, endG_normal, endF_ret, endF_normal])))
    obtain ⟨z1, z2, z3⟩ := rNB_none (r := .tup [node0 0 0 ⟨#[]⟩, .bool false]) rfl
    exact ⟨.tup [node0 0 0 ⟨#[]⟩, .bool false], by simp [node0, ares, aresL, upd, rowsOf_cons], z1, z2 _, z3⟩
  | some m =>
    rw [hs] at hch
    replace hch := hch.mono (fun r h => rNB_X h)
    rw [Option.bind_some]
    cases hm : validB m
    · have e : ckN m = none := by unfold ckN; rw [hm]; rfl
      rw [e]
      (repeat (first | with_reducible refine AW.seq ?_ | ((first | refine arun_kn 4 rfl (fun C hC => ?_) | refine arunD_kn 4 rfl (fun C hC => ?_)); (repeat ((conv => whnf); simp)); refine hC _ ?_; clear hC C; simp only [List.drop, Nat.reduceAdd]) | ((first | refine arun_kn 1 rfl (fun C hC => ?_) | refine arunD_kn 1 rfl (fun C hC => ?_)); (repeat ((conv => whnf); simp)); refine hC _ ?_; clear hC C; simp only [List.drop, Nat.reduceAdd]) | (refine arun_skip ?_ ?_; (focus (simp [awant]; done))) | (refine arun_c0 (p1) ?_; rintro _ rfl) | (refine arun_c0 (p2) ?_; rintro _ rfl) | (refine arun_c0 (p3) ?_; rintro _ rfl) | (refine arun_cF (0) (hch) ?_; (rintro _ ⟨l, hl, hlp, rfl⟩ hA)) | (refine arunD_cF (0) (hch) (by refine ⟨_, rfl, ?_⟩; first | exact node_in _ | exact storeA_in _ | exact item_in _ | exact in_int | exact in_bool | exact in_str | (simp [NoId, in_tup, in_agg, in_int, in_bool, in_str, node_in, nodes_in, strs_in]; done)) ?_; (rintro _ ⟨l, hl, hlp, rfl⟩ hA); intro _) | (refine AW.regionK [] (fun K hK => ?_)) | (refine AW.regionDK [] (pcs [] []) (by kernel_rfl) (by kernel_rfl) (fun K hK => ?_)) | (refine AW.condT ?_ ?_; (focus (simp [aev]; done))) | (refine AW.condF ?_ ?_; (focus (simp [aev]; done))) | with_reducible refine AW.block ?_ | ((first | ((first | refine arun_nil ?_ | refine arunD_nil ?_); refine hK _ ?_; clear hK K) | refine AW.skip ?_ | refine AW.exit ?_ | refine AW.ret ?_); simp only [thenA_exit, inBlockA_exit, if_true, if_false, Nat.reduceEqDiff, thenA_normal, inBlockA_normal, reduceIte, thenA_ret, inBlockA_ret, endQ_ret, endR_ret, endG_ret, endQ_normal, endR_normal, endG_normal, endF_ret, endF_normal])))
      have hcl := lab_clo l
      unfold labA at hcl
      rw [labL_eq] at hcl
      have hl' : l.nd = m := hl
      have p4 := checkedF_no l true (by rw [hl', hm]; rfl)
      (repeat (first | with_reducible refine AW.seq ?_ | ((first | refine arun_kn 4 rfl (fun C hC => ?_) | refine arunD_kn 4 rfl (fun C hC => ?_)); (repeat ((conv => whnf); simp)); refine hC _ ?_; clear hC C; simp only [List.drop, Nat.reduceAdd]) | ((first | refine arun_kn 1 rfl (fun C hC => ?_) | refine arunD_kn 1 rfl (fun C hC => ?_)); (repeat ((conv => whnf); simp)); refine hC _ ?_; clear hC C; simp only [List.drop, Nat.reduceAdd]) | (refine arun_skip ?_ ?_; (focus (simp [awant]; done))) | (refine arun_c0 (p4) ?_; rintro _ rfl) | (refine AW.regionK [] (fun K hK => ?_)) | (refine AW.regionDK [] (pcs [] []) (by kernel_rfl) (by kernel_rfl) (fun K hK => ?_)) | (refine AW.condT ?_ ?_; (focus (simp [aev]; done))) | (refine AW.condF ?_ ?_; (focus (simp [aev]; done))) | with_reducible refine AW.block ?_ | ((first | ((first | refine arun_nil ?_ | refine arunD_nil ?_); refine hK _ ?_; clear hK K) | refine AW.skip ?_ | refine AW.exit ?_ | refine AW.ret ?_); simp only [thenA_exit, inBlockA_exit, if_true, if_false, Nat.reduceEqDiff, thenA_normal, inBlockA_normal, reduceIte, thenA_ret, inBlockA_ret, endQ_ret, endR_ret, endG_ret, endQ_normal, endR_normal, endG_normal, endF_ret, endF_normal])))
      obtain ⟨z1, z2, z3⟩ := rNB_none (r := .tup [node0 0 0 ⟨#[]⟩, .bool false]) rfl
      exact ⟨.tup [node0 0 0 ⟨#[]⟩, .bool false], by simp [node0, ares, aresL, upd, rowsOf_cons], z1, z2 _, z3⟩
    · have e : ckN m = some m := by unfold ckN; rw [hm]; rfl
      rw [e]
      (repeat (first | with_reducible refine AW.seq ?_ | ((first | refine arun_kn 4 rfl (fun C hC => ?_) | refine arunD_kn 4 rfl (fun C hC => ?_)); (repeat ((conv => whnf); simp)); refine hC _ ?_; clear hC C; simp only [List.drop, Nat.reduceAdd]) | ((first | refine arun_kn 1 rfl (fun C hC => ?_) | refine arunD_kn 1 rfl (fun C hC => ?_)); (repeat ((conv => whnf); simp)); refine hC _ ?_; clear hC C; simp only [List.drop, Nat.reduceAdd]) | (refine arun_skip ?_ ?_; (focus (simp [awant]; done))) | (refine arun_c0 (p1) ?_; rintro _ rfl) | (refine arun_c0 (p2) ?_; rintro _ rfl) | (refine arun_c0 (p3) ?_; rintro _ rfl) | (refine arun_cF (0) (hch) ?_; (rintro _ ⟨l, hl, hlp, rfl⟩ hA)) | (refine arunD_cF (0) (hch) (by refine ⟨_, rfl, ?_⟩; first | exact node_in _ | exact storeA_in _ | exact item_in _ | exact in_int | exact in_bool | exact in_str | (simp [NoId, in_tup, in_agg, in_int, in_bool, in_str, node_in, nodes_in, strs_in]; done)) ?_; (rintro _ ⟨l, hl, hlp, rfl⟩ hA); intro _) | (refine AW.regionK [] (fun K hK => ?_)) | (refine AW.regionDK [] (pcs [] []) (by kernel_rfl) (by kernel_rfl) (fun K hK => ?_)) | (refine AW.condT ?_ ?_; (focus (simp [aev]; done))) | (refine AW.condF ?_ ?_; (focus (simp [aev]; done))) | with_reducible refine AW.block ?_ | ((first | ((first | refine arun_nil ?_ | refine arunD_nil ?_); refine hK _ ?_; clear hK K) | refine AW.skip ?_ | refine AW.exit ?_ | refine AW.ret ?_); simp only [thenA_exit, inBlockA_exit, if_true, if_false, Nat.reduceEqDiff, thenA_normal, inBlockA_normal, reduceIte, thenA_ret, inBlockA_ret, endQ_ret, endR_ret, endG_ret, endQ_normal, endR_normal, endG_normal, endF_ret, endF_normal])))
      have hcl := lab_clo l
      unfold labA at hcl
      rw [labL_eq] at hcl
      have hl' : l.nd = m := hl
      have p4 := checkedF_yes l (by rw [hl', hm])
      (repeat (first | with_reducible refine AW.seq ?_ | ((first | refine arun_kn 4 rfl (fun C hC => ?_) | refine arunD_kn 4 rfl (fun C hC => ?_)); (repeat ((conv => whnf); simp)); refine hC _ ?_; clear hC C; simp only [List.drop, Nat.reduceAdd]) | ((first | refine arun_kn 1 rfl (fun C hC => ?_) | refine arunD_kn 1 rfl (fun C hC => ?_)); (repeat ((conv => whnf); simp)); refine hC _ ?_; clear hC C; simp only [List.drop, Nat.reduceAdd]) | (refine arun_skip ?_ ?_; (focus (simp [awant]; done))) | (refine arun_c0 (p4) ?_; rintro _ rfl) | (refine AW.regionK [] (fun K hK => ?_)) | (refine AW.regionDK [] (pcs [] []) (by kernel_rfl) (by kernel_rfl) (fun K hK => ?_)) | (refine AW.condT ?_ ?_; (focus (simp [aev]; done))) | (refine AW.condF ?_ ?_; (focus (simp [aev]; done))) | with_reducible refine AW.block ?_ | ((first | ((first | refine arun_nil ?_ | refine arunD_nil ?_); refine hK _ ?_; clear hK K) | refine AW.skip ?_ | refine AW.exit ?_ | refine AW.ret ?_); simp only [thenA_exit, inBlockA_exit, if_true, if_false, Nat.reduceEqDiff, thenA_normal, inBlockA_normal, reduceIte, thenA_ret, inBlockA_ret, endQ_ret, endR_ret, endG_ret, endQ_normal, endR_normal, endG_normal, endF_ret, endF_normal])))
      have hA' : ∀ b ∈ l.fp, ¬ w0.A b := fun b hb => hA b (by rw [at_tup, atL_cons, at_agg, ← labL_eq]; exact List.mem_append_left _ hb)
      exact ⟨.tup [labA l, .bool true], by simp [labA, labL_eq, ares, aresL, upd, rowsOf_cons], tup2_pur (lab_pur l) pur_bool, fun b hb => by rw [at_tup2] at hb; exact hN.ge (hA' b hb), _, Wk.refl _, fun _ h => h, l, hl', hlp, rfl⟩
theorem specChk (m : Nd) (b : Bool) : AC Tryd.prog 77 [nodeA m, .bool b] 0 (fun r => r = optA (if b then ckN m else none)) := by
  refine AC.weak ?_
  have p1 := validNode_AC m .loose
  unfold nodeA
  rw [nodeL_eq]
  cases b
  · have e : (if false then ckN m else none) = none := rfl
    refine AC.of tab_ok mixed_ok Tryd.func77 (by rfl) (by kernel_rfl) ?_; rintro ⟨P, T, hT, hm, w0, S0, rd0, k0⟩ hP hTT; dsimp only at hP hTT; subst hP hTT; unfold initSt; rw [Tryd.ntmps77]
    (repeat (first | with_reducible refine AW.seq ?_ | ((first | refine arun_kn 4 rfl (fun C hC => ?_) | refine arunD_kn 4 rfl (fun C hC => ?_)); (repeat ((conv => whnf); simp)); refine hC _ ?_; clear hC C; simp only [List.drop, Nat.reduceAdd]) | ((first | refine arun_kn 1 rfl (fun C hC => ?_) | refine arunD_kn 1 rfl (fun C hC => ?_)); (repeat ((conv => whnf); simp)); refine hC _ ?_; clear hC C; simp only [List.drop, Nat.reduceAdd]) | (refine arun_skip ?_ ?_; (focus (simp [awant]; done))) | (refine arun_c0 (p1) ?_; rintro _ rfl) | (refine AW.regionK [] (fun K hK => ?_)) | (refine AW.regionDK [] (pcs [] []) (by kernel_rfl) (by kernel_rfl) (fun K hK => ?_)) | (refine AW.condT ?_ ?_; (focus (simp [aev]; done))) | (refine AW.condF ?_ ?_; (focus (simp [aev]; done))) | with_reducible refine AW.block ?_ | ((first | ((first | refine arun_nil ?_ | refine arunD_nil ?_); refine hK _ ?_; clear hK K) | refine AW.skip ?_ | refine AW.exit ?_ | refine AW.ret ?_); simp only [thenA_exit, inBlockA_exit, if_true, if_false, Nat.reduceEqDiff, thenA_normal, inBlockA_normal, reduceIte, thenA_ret, inBlockA_ret, endQ_ret, endR_ret, endG_ret, endQ_normal, endR_normal, endG_normal, endF_ret, endF_normal])))
    exact ⟨.tup [node0 0 0 ⟨#[]⟩, .bool false], by simp [node0, ares, aresL, upd, rowsOf_cons], none_end.1, _, none_end.2, by rw [e]; rfl⟩
  cases h1 : validB m
  · have e : ckN m = none := by unfold ckN; rw [h1]; rfl
    rw [h1] at p1
    refine AC.of tab_ok mixed_ok Tryd.func77 (by rfl) (by kernel_rfl) ?_; rintro ⟨P, T, hT, hm, w0, S0, rd0, k0⟩ hP hTT; dsimp only at hP hTT; subst hP hTT; unfold initSt; rw [Tryd.ntmps77]
    (repeat (first | with_reducible refine AW.seq ?_ | ((first | refine arun_kn 4 rfl (fun C hC => ?_) | refine arunD_kn 4 rfl (fun C hC => ?_)); (repeat ((conv => whnf); simp)); refine hC _ ?_; clear hC C; simp only [List.drop, Nat.reduceAdd]) | ((first | refine arun_kn 1 rfl (fun C hC => ?_) | refine arunD_kn 1 rfl (fun C hC => ?_)); (repeat ((conv => whnf); simp)); refine hC _ ?_; clear hC C; simp only [List.drop, Nat.reduceAdd]) | (refine arun_skip ?_ ?_; (focus (simp [awant]; done))) | (refine arun_c0 (p1) ?_; rintro _ rfl) | (refine AW.regionK [] (fun K hK => ?_)) | (refine AW.regionDK [] (pcs [] []) (by kernel_rfl) (by kernel_rfl) (fun K hK => ?_)) | (refine AW.condT ?_ ?_; (focus (simp [aev]; done))) | (refine AW.condF ?_ ?_; (focus (simp [aev]; done))) | with_reducible refine AW.block ?_ | ((first | ((first | refine arun_nil ?_ | refine arunD_nil ?_); refine hK _ ?_; clear hK K) | refine AW.skip ?_ | refine AW.exit ?_ | refine AW.ret ?_); simp only [thenA_exit, inBlockA_exit, if_true, if_false, Nat.reduceEqDiff, thenA_normal, inBlockA_normal, reduceIte, thenA_ret, inBlockA_ret, endQ_ret, endR_ret, endG_ret, endQ_normal, endR_normal, endG_normal, endF_ret, endF_normal])))
    exact ⟨.tup [node0 0 0 ⟨#[]⟩, .bool false], by simp [node0, ares, aresL, upd, rowsOf_cons], none_end.1, _, none_end.2, by rw [e]; rfl⟩
  · have e : ckN m = some m := by unfold ckN; rw [h1]; rfl
    rw [h1] at p1
    refine AC.of tab_ok mixed_ok Tryd.func77 (by rfl) (by kernel_rfl) ?_; rintro ⟨P, T, hT, hm, w0, S0, rd0, k0⟩ hP hTT; dsimp only at hP hTT; subst hP hTT; unfold initSt; rw [Tryd.ntmps77]
    (repeat (first | with_reducible refine AW.seq ?_ | ((first | refine arun_kn 4 rfl (fun C hC => ?_) | refine arunD_kn 4 rfl (fun C hC => ?_)); (repeat ((conv => whnf); simp)); refine hC _ ?_; clear hC C; simp only [List.drop, Nat.reduceAdd]) | ((first | refine arun_kn 1 rfl (fun C hC => ?_) | refine arunD_kn 1 rfl (fun C hC => ?_)); (repeat ((conv => whnf); simp)); refine hC _ ?_; clear hC C; simp only [List.drop, Nat.reduceAdd]) | (refine arun_skip ?_ ?_; (focus (simp [awant]; done))) | (refine arun_c0 (p1) ?_; rintro _ rfl) | (refine AW.regionK [] (fun K hK => ?_)) | (refine AW.regionDK [] (pcs [] []) (by kernel_rfl) (by kernel_rfl) (fun K hK => ?_)) | (refine AW.condT ?_ ?_; (focus (simp [aev]; done))) | (refine AW.condF ?_ ?_; (focus (simp [aev]; done))) | with_reducible refine AW.block ?_ | ((first | ((first | refine arun_nil ?_ | refine arunD_nil ?_); refine hK _ ?_; clear hK K) | refine AW.skip ?_ | refine AW.exit ?_ | refine AW.ret ?_); simp only [thenA_exit, inBlockA_exit, if_true, if_false, Nat.reduceEqDiff, thenA_normal, inBlockA_normal, reduceIte, thenA_ret, inBlockA_ret, endQ_ret, endR_ret, endG_ret, endQ_normal, endR_normal, endG_normal, endF_ret, endF_normal])))
    exact ⟨.tup [nodeA m, .bool true], by simp [ares, aresL, upd, rowsOf_cons], tup2_pur (node_pur m) pur_bool, _, Wk.refl _, by rw [e]; rfl⟩
theorem specSetNode_AC (t : VC) (n : Nd) (p : List ByteArray) (v : Nd) : AC Tryd.prog 37 [nodeA n, .view t 1 (strsE p), nodeA v] 0 (fun r => r = optA (setO n p v)) := by
  refine AC.weak ?_
  have p1 := validNode_AC n .loose
  have p2 := validPath_AC p t
  have p3 := validNode_AC v .loose
  have hcn := node_clo n
  have hcv := node_clo v
  unfold nodeA at hcn hcv ⊢
  rw [nodeL_eq n] at hcn ⊢
  rw [nodeL_eq v] at hcv ⊢
  cases h1 : validB n <;> rw [h1] at p1
  · have e : setO n p v = none := by unfold setO; rw [h1]; rfl
    refine AC.of tab_ok mixed_ok Tryd.func37 (by rfl) (by kernel_rfl) ?_; rintro ⟨P, T, hT, hm, w0, S0, rd0, k0⟩ hP hTT; dsimp only at hP hTT; subst hP hTT; unfold initSt; rw [Tryd.ntmps37]
    (repeat (first | with_reducible refine AW.seq ?_ | ((first | refine arun_kn 4 rfl (fun C hC => ?_) | refine arunD_kn 4 rfl (fun C hC => ?_)); (repeat ((conv => whnf); simp)); refine hC _ ?_; clear hC C; simp only [List.drop, Nat.reduceAdd]) | ((first | refine arun_kn 1 rfl (fun C hC => ?_) | refine arunD_kn 1 rfl (fun C hC => ?_)); (repeat ((conv => whnf); simp)); refine hC _ ?_; clear hC C; simp only [List.drop, Nat.reduceAdd]) | (refine arun_skip ?_ ?_; (focus (simp [awant]; done))) | (refine arun_c0 (p1) ?_; rintro _ rfl) | (refine arun_c0 (p2) ?_; rintro _ rfl) | (refine arun_c0 (p3) ?_; rintro _ rfl) | (refine AW.regionK [] (fun K hK => ?_)) | (refine AW.regionDK [] (pcs [] []) (by kernel_rfl) (by kernel_rfl) (fun K hK => ?_)) | (refine AW.condT ?_ ?_; (focus (simp [aev]; done))) | (refine AW.condF ?_ ?_; (focus (simp [aev]; done))) | with_reducible refine AW.block ?_ | ((first | ((first | refine arun_nil ?_ | refine arunD_nil ?_); refine hK _ ?_; clear hK K) | refine AW.skip ?_ | refine AW.exit ?_ | refine AW.ret ?_); simp only [thenA_exit, inBlockA_exit, if_true, if_false, Nat.reduceEqDiff, thenA_normal, inBlockA_normal, reduceIte, thenA_ret, inBlockA_ret, endQ_ret, endR_ret, endG_ret, endQ_normal, endR_normal, endG_normal, endF_ret, endF_normal])))
    exact ⟨.tup [node0 0 0 ⟨#[]⟩, .bool false], by simp [node0, ares, aresL, upd, rowsOf_cons], none_end.1, _, none_end.2, by rw [e]; rfl⟩
  cases h2 : pathB p <;> rw [h2] at p2
  · have e : setO n p v = none := by unfold setO; rw [h1, h2]; rfl
    refine AC.of tab_ok mixed_ok Tryd.func37 (by rfl) (by kernel_rfl) ?_; rintro ⟨P, T, hT, hm, w0, S0, rd0, k0⟩ hP hTT; dsimp only at hP hTT; subst hP hTT; unfold initSt; rw [Tryd.ntmps37]
    (repeat (first | with_reducible refine AW.seq ?_ | ((first | refine arun_kn 4 rfl (fun C hC => ?_) | refine arunD_kn 4 rfl (fun C hC => ?_)); (repeat ((conv => whnf); simp)); refine hC _ ?_; clear hC C; simp only [List.drop, Nat.reduceAdd]) | ((first | refine arun_kn 1 rfl (fun C hC => ?_) | refine arunD_kn 1 rfl (fun C hC => ?_)); (repeat ((conv => whnf); simp)); refine hC _ ?_; clear hC C; simp only [List.drop, Nat.reduceAdd]) | (refine arun_skip ?_ ?_; (focus (simp [awant]; done))) | (refine arun_c0 (p1) ?_; rintro _ rfl) | (refine arun_c0 (p2) ?_; rintro _ rfl) | (refine arun_c0 (p3) ?_; rintro _ rfl) | (refine AW.regionK [] (fun K hK => ?_)) | (refine AW.regionDK [] (pcs [] []) (by kernel_rfl) (by kernel_rfl) (fun K hK => ?_)) | (refine AW.condT ?_ ?_; (focus (simp [aev]; done))) | (refine AW.condF ?_ ?_; (focus (simp [aev]; done))) | with_reducible refine AW.block ?_ | ((first | ((first | refine arun_nil ?_ | refine arunD_nil ?_); refine hK _ ?_; clear hK K) | refine AW.skip ?_ | refine AW.exit ?_ | refine AW.ret ?_); simp only [thenA_exit, inBlockA_exit, if_true, if_false, Nat.reduceEqDiff, thenA_normal, inBlockA_normal, reduceIte, thenA_ret, inBlockA_ret, endQ_ret, endR_ret, endG_ret, endQ_normal, endR_normal, endG_normal, endF_ret, endF_normal])))
    exact ⟨.tup [node0 0 0 ⟨#[]⟩, .bool false], by simp [node0, ares, aresL, upd, rowsOf_cons], none_end.1, _, none_end.2, by rw [e]; rfl⟩
  cases h3 : validB v <;> rw [h3] at p3
  · have e : setO n p v = none := by unfold setO; rw [h1, h2, h3]; rfl
    refine AC.of tab_ok mixed_ok Tryd.func37 (by rfl) (by kernel_rfl) ?_; rintro ⟨P, T, hT, hm, w0, S0, rd0, k0⟩ hP hTT; dsimp only at hP hTT; subst hP hTT; unfold initSt; rw [Tryd.ntmps37]
    (repeat (first | with_reducible refine AW.seq ?_ | ((first | refine arun_kn 4 rfl (fun C hC => ?_) | refine arunD_kn 4 rfl (fun C hC => ?_)); (repeat ((conv => whnf); simp)); refine hC _ ?_; clear hC C; simp only [List.drop, Nat.reduceAdd]) | ((first | refine arun_kn 1 rfl (fun C hC => ?_) | refine arunD_kn 1 rfl (fun C hC => ?_)); (repeat ((conv => whnf); simp)); refine hC _ ?_; clear hC C; simp only [List.drop, Nat.reduceAdd]) | (refine arun_skip ?_ ?_; (focus (simp [awant]; done))) | (refine arun_c0 (p1) ?_; rintro _ rfl) | (refine arun_c0 (p2) ?_; rintro _ rfl) | (refine arun_c0 (p3) ?_; rintro _ rfl) | (refine AW.regionK [] (fun K hK => ?_)) | (refine AW.regionDK [] (pcs [] []) (by kernel_rfl) (by kernel_rfl) (fun K hK => ?_)) | (refine AW.condT ?_ ?_; (focus (simp [aev]; done))) | (refine AW.condF ?_ ?_; (focus (simp [aev]; done))) | with_reducible refine AW.block ?_ | ((first | ((first | refine arun_nil ?_ | refine arunD_nil ?_); refine hK _ ?_; clear hK K) | refine AW.skip ?_ | refine AW.exit ?_ | refine AW.ret ?_); simp only [thenA_exit, inBlockA_exit, if_true, if_false, Nat.reduceEqDiff, thenA_normal, inBlockA_normal, reduceIte, thenA_ret, inBlockA_ret, endQ_ret, endR_ret, endG_ret, endQ_normal, endR_normal, endG_normal, endF_ret, endF_normal])))
    exact ⟨.tup [node0 0 0 ⟨#[]⟩, .bool false], by simp [node0, ares, aresL, upd, rowsOf_cons], none_end.1, _, none_end.2, by rw [e]; rfl⟩
  have e : setO n p v = (if (setS n p v).isSome then ckN ((setS n p v).getD Nd.zero) else none) := by
    unfold setO; rw [h1, h2, h3]
    cases setS n p v <;> rfl
  have p4 := setAt_AC .loose p n v t (Shp.of h1) (Shp.of h3).sml
  have p5 := specChk ((setS n p v).getD Nd.zero) (setS n p v).isSome
  have hcm := node_clo ((setS n p v).getD Nd.zero)
  rw [← e, optA_eq (setO n p v)] at p5
  rw [optA_eq] at p4
  unfold optL at p4
  rw [nodeT_loose] at p4
  generalize setO n p v = o at *
  generalize (setS n p v).isSome = b at *
  generalize (setS n p v).getD Nd.zero = m at *
  unfold nodeA at p4 p5 hcm
  rw [nodeL_eq n, nodeL_eq v] at p4
  rw [nodeL_eq m] at p5 hcm
  refine AC.of tab_ok mixed_ok Tryd.func37 (by rfl) (by kernel_rfl) ?_; rintro ⟨P, T, hT, hm, w0, S0, rd0, k0⟩ hP hTT; dsimp only at hP hTT; subst hP hTT; unfold initSt; rw [Tryd.ntmps37]
  (repeat (first | with_reducible refine AW.seq ?_ | ((first | refine arun_kn 4 rfl (fun C hC => ?_) | refine arunD_kn 4 rfl (fun C hC => ?_)); (repeat ((conv => whnf); simp [optL])); refine hC _ ?_; clear hC C; simp only [List.drop, Nat.reduceAdd]) | ((first | refine arun_kn 1 rfl (fun C hC => ?_) | refine arunD_kn 1 rfl (fun C hC => ?_)); (repeat ((conv => whnf); simp [optL])); refine hC _ ?_; clear hC C; simp only [List.drop, Nat.reduceAdd]) | (refine arun_skip ?_ ?_; (focus (simp [awant, optL]; done))) | (refine arun_c0 (p1) ?_; rintro _ rfl) | (refine arun_c0 (p2) ?_; rintro _ rfl) | (refine arun_c0 (p3) ?_; rintro _ rfl) | (refine arun_c0 (p4) ?_; rintro _ rfl) | (refine arun_c0 (p5) ?_; rintro _ rfl) | (refine AW.regionK [] (fun K hK => ?_)) | (refine AW.regionDK [] (pcs [] []) (by kernel_rfl) (by kernel_rfl) (fun K hK => ?_)) | (refine AW.condT ?_ ?_; (focus (simp [aev, optL]; done))) | (refine AW.condF ?_ ?_; (focus (simp [aev, optL]; done))) | with_reducible refine AW.block ?_ | ((first | ((first | refine arun_nil ?_ | refine arunD_nil ?_); refine hK _ ?_; clear hK K) | refine AW.skip ?_ | refine AW.exit ?_ | refine AW.ret ?_); simp only [thenA_exit, inBlockA_exit, if_true, if_false, Nat.reduceEqDiff, thenA_normal, inBlockA_normal, reduceIte, thenA_ret, inBlockA_ret, endQ_ret, endR_ret, endG_ret, endQ_normal, endR_normal, endG_normal, endF_ret, endF_normal])))
  exact ⟨optA o, by rw [optA_eq]; simp [optL, ares, aresL, upd, rowsOf_cons], optA_pur _, _, Wk.refl _, rfl⟩
end Go.Proofs.YtfjaobfaepjfnaaDoor.Eng
-- EV: fresh
namespace Go.Proofs.YtfjaobfaepjfnaaDoor.Eng
open Go Go.RowKit
attribute [local simp] big size_mk ASt.pay Option.map_map Function.comp_def awant aop acall ado aev ofVal ofVal0 ASt.put ASt.add ASt.turn ASt.kill abox aalloc astore aload aloadD astoreD idOf ASt.at cellsTo afieldAddr afield aindexAddr aindex alen abin aint acmp astr aun apick aextract anil aslice abound abuild afill abuildSlice asCells aps avCells over upd aappend asrc amax amin aconv mkSt slots rowsOf_cons rowsOf_nil usedOf_cons usedOf_nil ZK.av List.replicate ASt.back ASt.addL ASt.killL nodeA nodeT nodeTL_eq nodeL_eq strsE_get strsE_len intsE_get intsE_len strsE_at intsE_at tab2 tab3 tab4 tab5 tab6 tab7 tab8 tab9 tab10 tab11 tab12 tab13 tab14 tab15 tab16 tab17 tab18 tab19 tab21 tab22 tab23 tab24 tab25 tab26 tab28 tab29 tab30 tab31 tab42 tab43 tab44 tab46 tab63 tab64 tab67 tab68 tab75 tab98 tab100 tab101 tab105 tab106 tab107 tab122 tab123 tab125 tab128 tab138 tab144 tab151 tab152 tab157 tab158 tab160 tab161 tab162
set_option maxRecDepth 100000
set_option maxHeartbeats 8000000
end Go.Proofs.YtfjaobfaepjfnaaDoor.Eng
namespace Go.Proofs.YtfjaobfaepjfnaaDoor
open Go.RowKit
def setN (n : Nd) (p : List ByteArray) (v : Nd) : Nd := (Eng.setO n p v).getD Nd.zero
def setB (n : Nd) (p : List ByteArray) (v : Nd) : Bool := (Eng.setO n p v).isSome
theorem implSetNode_ok (n : Nd) (p : List ByteArray) (x : Nd) (v u y : Value) (w : World) (h : RV nodeRep packA w any n v) (k : RV strsRep packO w any p u) (j : RV nodeRep packA w any x y) :
    Calls Tryd.prog 38 #[v, u, y] w fun e w' => ∃ r fp, e = .returned (.tuple #[r, .bool (setB n p x)]) ∧ Grow w w' ∧ FV nodeRep packA w' (setN n p x) r fp ∧ Free w.heap.size w' fp :=
  Eng.acf_nb (Eng.SetNode_ACF .loose n p x) w [v, u, y] (Eng.args3 (Eng.arg_node h) (Eng.arg_strs k) (Eng.arg_node j))
end Go.Proofs.YtfjaobfaepjfnaaDoor
namespace Go.Proofs.YtfjaobfaepjfnaaDoor
open Go.RowKit
theorem costL_set : ∀ (l : List Nd) (k : Nat) (y : Nd) (c : Nat) (hk : k < l.length), costN y ≤ costN l[k] + c → costL (l.set k y) ≤ costL l + c
  | [], _, _, _, hk, _ => by cases hk
  | a :: l, 0, y, c, _, h => by rw [List.set_cons_zero, costL, costL]; simp at h; omega
  | a :: l, k + 1, y, c, hk, h => by
    rw [List.set_cons_succ, costL, costL]
    have := costL_set l k y c (by simpa using hk) (by simpa using h)
    omega
theorem setS_cost (x : Nd) (c : Nat) : ∀ (p : List ByteArray) (n r : Nd), (∀ m, Eng.getS n p = some m → costN x ≤ costN m + c) → Eng.setS n p x = some r → costN r ≤ costN n + c
  | [], n, r, h, hr => by
    rw [Eng.setS] at hr; cases hr
    exact h n rfl
  | s :: p, n, r, h, hr => by
    rcases Eng.placeI_cases n s with ⟨h1, _⟩ | ⟨k, h1, h2, _⟩
    · rw [Eng.setS_no p h1] at hr; cases hr
    · rw [Eng.setS_yes p h1 h2] at hr
      obtain ⟨y, hy, rfl⟩ := Option.map_eq_some_iff.1 hr
      have := setS_cost x c p _ y (fun m hm => h m (by rw [Eng.getS_yes p h1 h2]; exact hm)) hy
      have := costL_set n.kids k y c h1 this
      rw [costN_eq, costN_eq n]
      show n.text.size + costS n.names + costL (n.kids.set k y) ≤ _
      omega
theorem setN_cnt (n : Nd) (p : List ByteArray) (v : Nd) : cntT (setN n p v) ≤ 3 * costN n + 3 * costN v := by
  unfold setN
  cases h : Eng.setO n p v with
  | none => simp only [Option.getD_none]; rw [cntT_zero]; omega
  | some r =>
    simp only [Option.getD_some]
    have h1 := cntT_le r
    have h2 : costN r ≤ costN n + costN v := by
      unfold Eng.setO at h
      split at h
      · obtain ⟨r', h, h'⟩ := Option.bind_eq_some_iff.1 h
        unfold Eng.ckN at h'
        split at h'
        · cases h'
          exact setS_cost _ (costN v) p n r (fun m hm => by omega) h
        · cases h'
      · cases h
    omega
end Go.Proofs.YtfjaobfaepjfnaaDoor
namespace Go.Proofs.YtfjaobfaepjfnaaDoor.Eng
open Go Go.RowKit
def onlyN (R : Act → World → Prop) : Exit → Act → World → Prop
  | .normal, a, w => R a w
  | _, _, _ => False
theorem lets_onlyN {R : Act → World → Prop} (h : LetsOut (onlyN R)) : False := by
  obtain ⟨_, _, h⟩ := h
  exact h
def Keeps (ops : Array Oper) (a0 a : Act) : Prop := a.tmps.size = a0.tmps.size ∧ ∀ t, (∀ (i : Nat) o, ops[i]? = some o → o.dst ≠ some t) → a.tmps[t]? = a0.tmps[t]?
theorem keeps_put {ops : Array Oper} {a0 a : Act} {i : Nat} {o : Oper} {v : Value} (h : Keeps ops a0 a) (ho : ops[i]? = some o) : Keeps ops a0 (a.put o.dst v) := by
  unfold Act.put
  split
  · rename_i d hd
    refine ⟨by simp [h.1], fun t ht => ?_⟩
    have hne : d ≠ t := fun e => ht i o ho (by rw [hd, e])
    simp only [Array.getElem?_setIfInBounds_ne hne]
    exact h.2 t ht
  · exact h
section
variable {P : Program} {ops : Array Oper} {R R' : Act → World → Prop} {a0 : Act}
theorem wp_keeps {o : Oper} {i : Nat} {a : Act} {w : World} {K : Act → World → Prop} (ho : ops[i]? = some o) (hk : Keeps ops a0 a) (h : o.wp P a w K (onlyN R)) : o.wp P a w (fun a' w' => K a' w' ∧ Keeps ops a0 a') (onlyN R') := by
  unfold Oper.wp at *
  generalize (execOp a.eval o).run P w = r at *
  cases r with
  | ok n w' =>
    cases n <;> simp only [Oper.upon] at h ⊢
    case value v => exact ⟨h, keeps_put hk ho⟩
    case skip => exact ⟨h, keeps_put hk ho⟩
    case defer d => exact ⟨h, keeps_put (a := { a with defers := d :: a.defers }) hk ho⟩
    case enter f args =>
      refine Calls.mono h (fun e w'' he => ?_)
      cases e with
      | returned v => exact ⟨he, keeps_put hk ho⟩
      | panicked c => exact he.elim
      | outgrown => exact (lets_onlyN he).elim
    case row r args => exact Rows.mono h (fun v w'' he => ⟨he, keeps_put hk ho⟩)
    all_goals exact h
  | halt x w' => cases x <;> simp only [Oper.upon] at h ⊢ <;> exact h
theorem wpOp_keeps {i : Nat} {a : Act} {w : World} {K : Act → World → Prop} (hk : Keeps ops a0 a) (h : wpOp P ops (onlyN R) i K a w) : wpOp P ops (onlyN R') i (fun a' w' => K a' w' ∧ Keeps ops a0 a') a w := by
  unfold wpOp at *
  cases ho : ops[i]? with
  | none => simp only [ho] at h ⊢; exact ⟨h, hk⟩
  | some o =>
    simp only [ho] at h ⊢
    split
    · rename_i hw
      simp only [hw, if_true] at h
      rcases h with h | ⟨_, h⟩
      · exact .inl (wp_keeps ho hk h)
      · exact (lets_onlyN h).elim
    · rename_i hw
      simp only [hw] at h
      exact ⟨h, keeps_put hk ho⟩
theorem wpAny_keeps {md : Region.Mode} : ∀ (fuel : Nat) (listed : Array Bool) (a : Act) (w : World), wpAny P md ops (onlyN R) fuel listed a w → Keeps ops a0 a → wpAny P md ops (onlyN (fun a' w' => R a' w' ∧ Keeps ops a0 a')) fuel listed a w
  | 0, _, _, _, h, hk => ⟨h.1, h.2, hk⟩
  | fuel + 1, listed, a, w, h, hk => ⟨fun h0 => ⟨h.1 h0, hk⟩, fun i hi => wpOp_mono (fun a' w' h' => wpAny_keeps fuel _ a' w' h'.1 h'.2) (wpOp_keeps hk (h.2 i hi))⟩
end
section
variable {P : Program} {T : Tab} {md : List Nat} {pc : Pc} {S : Nat → Prop}
theorem region_world (hT : Tab.Ok P T) (hm : P.follows .mixedOrders = true) {id : Nat} {l : List Oper} {K : ASt → Prop} {Q : Exit → Act → World → Prop} (hB : Region.lexB .any l.toArray = true) (hcmp : cmpL md pc.2 l.toArray = true)
    {w : World} {a : Act} {s : ASt} {ρ : Cx} (h : SR P (W0.of w) S none 0 w a s ρ) (hr : arunD P T md (W0.of w).A pc l.toArray K l 0 s)
    (hQ : ∀ s' w' a' ρ', SR P (W0.of w) S none 0 w' a' s' ρ' → K s' → Keeps l.toArray a a' → Q .normal a' w') : (Code.region id l.toArray true).wp P Q a w := by
  simp only [Region.lexB, Bool.and_eq_true] at hB
  obtain ⟨h1, _⟩ := h.grow ((Ext.refl nil w).drew)
  have h2 := aAny_lex (P := P) (T := T) (md := md) (pc := pc) (ops := l.toArray) (K := K) (Av := (W0.of w).A) hcmp l 0 (Array.replicate l.toArray.size false) s (by simp) (by simpa using hB.2) (fun i o _ hl => by simp [Array.getElem?_replicate] at hl; split at hl <;> simp at hl) h1.inv hr
  have h3 : aAny P T md (W0.of w).A pc l.toArray K l.toArray.size (Array.replicate l.toArray.size false) s := by simpa using h2
  have h4 := wpAny_of_aAny (P := P) (T := T) (md := md) (pc := pc) (ops := l.toArray) (K := K) (Av := (W0.of w).A) hT (fun _ h => h) (Q := onlyN (fun a' w' => ∃ s' ρ', SR P (W0.of w) S none 0 w' a' s' ρ' ∧ K s')) (fun s' w' a' ρ' hs hk => ⟨s', ρ', hs, hk⟩) _ _ s _ a ρ h1 h3
  refine wp_mono (wp_region_any hm (wpAny_keeps (a0 := a) _ _ _ _ h4 ⟨rfl, fun _ _ => rfl⟩)) ?_
  intro e a' w' h5
  cases e with
  | normal =>
    obtain ⟨⟨s', ρ', h6, h7⟩, h8⟩ := h5
    exact hQ s' w' a' ρ' h6 h7 h8
  | _ => exact h5.elim
theorem region_worldK (hT : Tab.Ok P T) (hm : P.follows .mixedOrders = true) (md : List Nat) (pc : Pc) {id : Nat} {l : List Oper} (K : ASt → Prop) {Q : Exit → Act → World → Prop} (hB : Region.lexB .any l.toArray = true) (hcmp : cmpL md pc.2 l.toArray = true)
    {w : World} {a : Act} {s : ASt} {ρ : Cx} (h : SR P (W0.of w) S none 0 w a s ρ) (hr : ∀ K' : ASt → Prop, (∀ s', K s' → K' s') → ARunD P T md (W0.of w).A pc l.toArray K' l 0 s)
    (hQ : ∀ s' w' a' ρ', SR P (W0.of w) S none 0 w' a' s' ρ' → K s' → Keeps l.toArray a a' → Q .normal a' w') : (Code.region id l.toArray true).wp P Q a w :=
  region_world hT hm hB hcmp h (hr K (fun _ h => h)).out hQ
def midSt (cs : List AV) : ASt := { tmps := cs, rows := fun _ => none, used := fun id => decide (1000 ≤ id), rd := none }
theorem mid_SR {w : World} {a : Act} {cs : List AV} (hd : a.defers = []) (h : RepL w (pureC nil (fun b => b < w.heap.size) none) cs a.tmps.toList) : SR P (W0.of w) (fun b => b < w.heap.size) none 0 w a (midSt cs) (initC nil (fun b => b < w.heap.size) none) := by
  have h : RepL w (initC nil (fun b => b < w.heap.size) none) cs a.tmps.toList := RepL.le (ρ := pureC nil (fun b => b < w.heap.size) none) (ρ' := initC nil (fun b => b < w.heap.size) none) ⟨fun _ h => ⟨h, fun _ => rfl⟩, fun _ h => ⟨h, fun _ => rfl⟩, fun _ h => False.elim h, fun _ h => h⟩ h
  exact ⟨h, hd, Ext.refl _ _, fun _ h => h, fun b hb => ⟨hb, .inl hb⟩, fun id => by simp [midSt, initC], (fun id r h => by simp [midSt] at h), fun _ _ => rfl, (fun _ _ _ _ _ h => by cases h), (fun _ _ _ h => by cases h), (fun _ h => by cases h), (fun _ h => by cases h), fun _ => rfl, (fun _ h => by cases h), (fun _ h => h.elim), (fun _ _ h => by cases h), fun id hid => by simp [midSt, hid], fun _ h => h⟩
end
theorem repL_slots {w : World} {ρ : Cx} : ∀ (n k : Nat) (L : List (Nat × AV)) (vs : List Value), vs.length = n → L.Pairwise (fun p q => p.1 < q.1) → (∀ p ∈ L, k ≤ p.1 ∧ ∃ v, vs[p.1 - k]? = some v ∧ Rep w ρ p.2 v) → RepL w ρ (slots k n L) vs
  | 0, k, L, vs, hl, _, _ => by
    rw [List.length_eq_zero_iff.1 hl, slots]; unfold RepL; rfl
  | n + 1, k, [], v :: vs, hl, _, _ => by
    rw [slots]; unfold RepL
    exact ⟨v, vs, rfl, rep_any _, repL_slots n (k + 1) [] vs (by simpa using hl) .nil (fun p hp => by cases hp)⟩
  | n + 1, k, (t, c) :: l, v :: vs, hl, hp, h => by
    rw [List.pairwise_cons] at hp
    have h0 := h (t, c) (by simp)
    have tail : ∀ L' : List (Nat × AV), (∀ p ∈ L', p ∈ (t, c) :: l ∧ k < p.1) → ∀ p ∈ L', k + 1 ≤ p.1 ∧ ∃ v, vs[p.1 - (k + 1)]? = some v ∧ Rep w ρ p.2 v := fun L' hL p hpm => by
      obtain ⟨q1, q2⟩ := hL p hpm
      obtain ⟨_, u, q3, q4⟩ := h p q1
      refine ⟨q2, u, ?_, q4⟩
      rw [show p.1 - k = (p.1 - (k + 1)) + 1 by omega, List.getElem?_cons_succ] at q3
      exact q3
    rw [slots]
    split
    · rename_i ht
      subst ht
      unfold RepL
      obtain ⟨_, u, q3, q4⟩ := h0
      rw [Nat.sub_self, List.getElem?_cons_zero] at q3
      cases q3
      exact ⟨v, vs, rfl, q4, repL_slots n (t + 1) l vs (by simpa using hl) hp.2 (tail l (fun p hpm => ⟨by simp [hpm], hp.1 p hpm⟩))⟩
    · rename_i ht
      have hkt : k < t := by have := h0.1; dsimp only at this; omega
      unfold RepL
      refine ⟨v, vs, rfl, rep_any _, repL_slots n (k + 1) ((t, c) :: l) vs (by simpa using hl) (List.pairwise_cons.2 hp) (tail _ (fun p hpm => ⟨hpm, ?_⟩))⟩
      rcases List.mem_cons.1 hpm with rfl | hpm
      · exact hkt
      · have := hp.1 p hpm; dsimp only at this; omega
  | n + 1, k, L, [], hl, _, _ => by simp at hl
def dstsIn (D : List Nat) (ops : Array Oper) : Bool := ops.toList.all fun o => match o.dst with | some d => D.contains d | none => true
def laidOver (f : Nat → Value) (D : List Nat) (A : Array Value) : Array Value := D.foldl (fun acc t => acc.setIfInBounds t (f t)) A
theorem laidOver_size (f : Nat → Value) : ∀ (D : List Nat) (A : Array Value), (laidOver f D A).size = A.size
  | [], A => rfl
  | t :: D, A => by unfold laidOver; rw [List.foldl_cons]; have := laidOver_size f D (A.setIfInBounds t (f t)); unfold laidOver at this; rw [this]; simp
theorem laidOver_get (f : Nat → Value) : ∀ (D : List Nat) (A : Array Value) (t : Nat), t < A.size → (laidOver f D A)[t]? = if t ∈ D then some (f t) else A[t]?
  | [], A, t, _ => by simp [laidOver]
  | d :: D, A, t, h => by
    have ih := laidOver_get f D (A.setIfInBounds d (f d)) t (by simpa using h)
    unfold laidOver at ih ⊢
    rw [List.foldl_cons, ih]
    by_cases h1 : t ∈ D
    · simp [h1]
    · rw [if_neg h1]
      by_cases h2 : d = t
      · subst h2; simp [h]
      · rw [Array.getElem?_setIfInBounds_ne h2, if_neg (by simp [h1]; exact fun e => h2 e.symm)]
theorem keeps_lit {ops : Array Oper} {a0 a : Act} (h : Keeps ops a0 a) (D : List Nat) (hD : dstsIn D ops = true) : ∃ f : Nat → Value, a.tmps = laidOver f D a0.tmps ∧ ∀ t v, a.tmps[t]? = some v → f t = v := by
  refine ⟨fun t => (a.tmps[t]?).getD undef, ?_, fun t v hv => by simp [hv]⟩
  apply Array.ext_getElem?
  intro t
  rcases Nat.lt_or_ge t a0.tmps.size with ht | ht
  · rw [laidOver_get _ D _ t ht]
    split
    · rw [Array.getElem?_eq_getElem (by rw [h.1]; exact ht)]; rfl
    · rename_i hn
      refine h.2 t (fun i o ho hd => hn ?_)
      unfold dstsIn at hD
      rw [List.all_eq_true] at hD
      have := hD o (by rw [← Array.getElem?_toList] at ho; exact List.mem_of_getElem? ho)
      rw [hd] at this
      simpa using this
  · rw [Array.getElem?_eq_none (by rw [h.1]; exact ht), Array.getElem?_eq_none (by rw [laidOver_size]; exact ht)]
theorem box_of_row {P : Program} {w0 : W0} {S0 : Nat → Prop} {rd0 : Option Nat} {k0 : Nat} {w : World} {a : Act} {s : ASt} {ρ : Cx} (h : SR P w0 S0 rd0 k0 w a s ρ) {t id sz : Nat} {cs : List AV} {r : Row} (ht : s.tmps[t]? = some (.ptr true sz 1 id 0 0)) (hr : s.rows id = some r) (hb : r.es = [cs]) :
    ∃ g xs, a.tmps[t]? = some (.pointer (some ⟨g, 0, none⟩)) ∧ BoxN w g xs ∧ RepL w ρ cs xs ∧ ∀ x ∈ xs, x.oneCell' = true := by
  obtain ⟨_, u, hu, hln, ⟨_, _⟩, hsz, _, xs, hat, hrep, hone⟩ := h.rw id r hr
  obtain ⟨v, hv, hrv⟩ := h.tm.get ht
  have hl1 : r.es.length = 1 := by rw [hb]; rfl
  rw [hl1] at hat hln
  rcases hat with ⟨h0, _⟩ | ⟨g, cap, cur, rfl, hp, _, hg, hn, hcap, hcs, htk, hxl⟩
  · cases h0
  obtain ⟨_, _, _, q⟩ := rep_ptr.1 hrv
  obtain ⟨b, n, c, e1, e2⟩ := q _ hu hln.symm
  cases e1
  rw [hb, List.flatten_cons, List.flatten_nil, List.append_nil] at hrep
  refine ⟨g, xs, ?_, ⟨fun i x hx => ?_, fun o => ?_, (Array.getElem?_eq_some_iff.1 hg).1⟩, hrep, hone⟩
  · rw [← Array.getElem?_toList, hv, e2]
    simp
  · have hi : i < xs.length := (List.getElem?_eq_some_iff.1 hx).1
    have hc : cur[i]? = some x := by
      rw [← Array.getElem?_toList]
      rw [← htk, List.getElem?_take] at hx
      split at hx
      · exact hx
      · cases hx
    unfold World.cell?
    rw [hg]
    simpa using hc
  · unfold World.frozen?
    rw [hg]
    simp
theorem repC_of_box {w : World} {ρ : Cx} {b : Nat} : ∀ {cs : List AV} {xs : List Value} {o : Nat}, (∀ i v, xs[i]? = some v → w.cell? ⟨b, o + i, none⟩ = some v) → RepL w ρ cs xs → (∀ x ∈ xs, x.oneCell' = true) → RepC w ρ b o cs
  | [], _, _, _, _, _ => by unfold RepC; trivial
  | c :: cs, xs, o, h, hr, h1 => by
    unfold RepL at hr
    obtain ⟨v, vs, rfl, h2, h3⟩ := hr
    unfold RepC
    exact ⟨⟨v, h 0 v rfl, h1 v (by simp), h2⟩, repC_of_box (fun i u hu => by have := h (i + 1) u hu; rwa [show o + (i + 1) = o + 1 + i by omega] at this) h3 (fun x hx => h1 x (by simp [hx]))⟩
theorem eptr_of_box {w : World} {ρ : Cx} {b : Nat} {cs : List AV} {xs : List Value} (h : BoxN w b xs) (hS : ρ.S b) (hr : RepL w ρ cs xs) (h1 : ∀ x ∈ xs, x.oneCell' = true) : Rep w ρ (.eptr .loose cs) (.pointer (some ⟨b, 0, none⟩)) :=
  rep_eptr.2 ⟨b, 0, rfl, hS, repC_of_box (fun i v hv => by rw [Nat.zero_add]; exact h.cell i v hv) hr h1⟩
end Go.Proofs.YtfjaobfaepjfnaaDoor.Eng
namespace Go.Proofs.YtfjaobfaepjfnaaDoor.Eng
open Go Go.RowKit
theorem AC.ofMade {P : Program} {f : FuncId} {args : List AV} {Post : AV → Prop} (he : Enters P f)
    (h : ∀ w L S rb vs, RepL w (pureC L S rb) args vs → Calls P f vs.toArray w fun e w' => ∃ v fp r, e = .returned v ∧ Grow w w' ∧ Free w.heap.size w' fp ∧ Rep w' (pureC nil (fun b => b ∈ fp) none) r v ∧ Post r) : AC P f args 0 Post := by
  refine ⟨he, fun w L S rb k vs _ hS hr hargs => (h w L S rb vs hargs).mono ?_⟩
  rintro e w' ⟨v, fp, r, rfl, hg, hf, h1, h2⟩
  refine ⟨v, r, fun b => S b ∨ b ∈ fp, rfl, hg.mono (fun _ h => h.elim), fun _ h => .inl h, fun b hb => hb.imp id (fun hb => ⟨(hf.2 b hb).1, (hf.2 b hb).2.1⟩), fun b hb => ((hr b hb).2.moved hg (fun h => h) (fun b hb => ⟨.inl hb, fun h => h⟩)).less (by omega), ?_, h2⟩
  exact Rep.le (ρ := pureC nil (fun b => b ∈ fp) none) (ρ' := pureC nil (fun b => S b ∨ b ∈ fp) none) ⟨fun _ h => ⟨.inr h, fun _ => rfl⟩, fun _ h => ⟨h, fun _ => rfl⟩, fun _ h => False.elim h, fun _ h => h⟩ h1
theorem toNode_AC (n : Nd) (hc : costN n ≤ 1048576) : AC Tryd.prog 23 [nodeA n] 0 (fun r => r = nodeA n) := by
  refine AC.ofMade (enters_of Tryd.func23 (by kernel_rfl) (by kernel_rfl)) (fun w L S rb vs h => ?_)
  unfold RepL at h
  obtain ⟨v, vs', rfl, hv, h⟩ := h
  unfold RepL at h
  subst h
  refine (uToN n v w hc (node_shut (nodeA_of_rep hv))).mono ?_
  rintro e w' ⟨v', fp, rfl, hg, hF, hfr⟩
  obtain ⟨cs, rfl, hF⟩ := hF
  exact ⟨_, fp, nodeA n, rfl, hg, hfr, rep_of_node (node_open ⟨cs, rfl, nodeRep.toR hF (fun _ h => h)⟩), rfl⟩
theorem toStrs_AC (p : List ByteArray) (hc : costS p ≤ 1048576) : AC Tryd.prog 32 [.view .loose 1 (strsE p)] 0 (fun r => r = .view .loose 1 (strsE p)) := by
  refine AC.ofMade (enters_of Tryd.func32 (by kernel_rfl) (by kernel_rfl)) (fun w L S rb vs h => ?_)
  unfold RepL at h
  obtain ⟨v, vs', rfl, hv, h⟩ := h
  unfold RepL at h
  subst h
  obtain ⟨a, c, rfl, hs⟩ := strs_of_rep hv
  refine (uToS p _ w hc (strs_shut hs)).mono ?_
  rintro e w' ⟨v', fp, rfl, hg, hF, hfr⟩
  obtain ⟨cs, rfl, hF⟩ := hF
  obtain ⟨a', c', he, hs'⟩ := strs_open ⟨cs, rfl, strsRep.toR (S := fun b => b ∈ fp) hF (fun _ h => h)⟩
  rw [he]
  exact ⟨_, fp, _, rfl, hg, hfr, strs_to_rep hs', rfl⟩
theorem eptr_node {w : World} {b : Nat} {n : Nd} {xs : List Value} (h : BoxN w b xs) (hn : RV nodeRep packA w Go.Proofs.YtfjaobfaepjfnaaDoor.any n (.agg xs.toArray)) : Rep w (pureC nil (fun k => k < w.heap.size) none) (.eptr .loose (nodeL n)) (.pointer (some ⟨b, 0, none⟩)) := by
  obtain ⟨vs, h1, h2, h3⟩ := rep_agg.1 (arg_node hn)
  have hv : vs = xs := by
    have := congrArg Array.toList (Value.agg.inj h1)
    simpa using this.symm
  subst hv
  exact eptr_of_box h h.lt h3 h2
end Go.Proofs.YtfjaobfaepjfnaaDoor.Eng
namespace Go.Proofs.YtfjaobfaepjfnaaDoor.Eng
open Go Go.RowKit
attribute [local simp] big size_mk ASt.pay Option.map_map Function.comp_def awant aop acall ado aev ofVal ofVal0 ASt.put ASt.add ASt.turn ASt.kill abox aalloc astore aload aloadD astoreD idOf ASt.at cellsTo afieldAddr afield aindexAddr aindex alen abin aint acmp astr aun apick aextract anil aslice abound abuild afill abuildSlice asCells aps avCells over upd aappend asrc amax amin aconv mkSt slots rowsOf_cons rowsOf_nil usedOf_cons usedOf_nil ZK.av List.replicate ASt.back ASt.addL ASt.killL nodeA nodeT nodeTL_eq nodeL_eq strsE_get strsE_len intsE_get intsE_len strsE_at intsE_at tab2 tab3 tab4 tab5 tab6 tab7 tab8 tab9 tab10 tab11 tab12 tab13 tab14 tab15 tab16 tab17 tab18 tab19 tab21 tab22 tab23 tab24 tab25 tab26 tab28 tab29 tab30 tab31 tab42 tab43 tab44 tab46 tab63 tab64 tab67 tab68 tab75 tab98 tab100 tab101 tab105 tab106 tab107 tab122 tab123 tab125 tab128 tab138 tab144 tab151 tab152 tab157 tab158 tab160 tab161 tab162
end Go.Proofs.YtfjaobfaepjfnaaDoor.Eng
-- EV: skip
namespace Go.Proofs.YtfjaobfaepjfnaaDoor.Eng
open Go Go.RowKit
attribute [local simp] big size_mk ASt.pay Option.map_map Function.comp_def awant aop acall ado aev ofVal ofVal0 ASt.put ASt.add ASt.turn ASt.kill abox aalloc astore aload aloadD astoreD idOf ASt.at cellsTo afieldAddr afield aindexAddr aindex alen abin aint acmp astr aun apick aextract anil aslice abound abuild afill abuildSlice asCells aps avCells over upd aappend asrc amax amin aconv mkSt slots rowsOf_cons rowsOf_nil usedOf_cons usedOf_nil ZK.av List.replicate ASt.back ASt.addL ASt.killL nodeA nodeT nodeTL_eq nodeL_eq strsE_get strsE_len intsE_get intsE_len strsE_at intsE_at tab2 tab3 tab4 tab5 tab6 tab7 tab8 tab9 tab10 tab11 tab12 tab13 tab14 tab15 tab16 tab17 tab18 tab19 tab21 tab22 tab23 tab24 tab25 tab26 tab28 tab29 tab30 tab31 tab42 tab43 tab44 tab46 tab63 tab64 tab67 tab68 tab75 tab98 tab100 tab101 tab105 tab106 tab107 tab122 tab123 tab125 tab128 tab138 tab144 tab151 tab152 tab157 tab158 tab160 tab161 tab162
end Go.Proofs.YtfjaobfaepjfnaaDoor.Eng
-- EV: rows skip
namespace Go.Proofs.YtfjaobfaepjfnaaDoor.Eng
open Go Go.RowKit
attribute [local simp] big size_mk ASt.pay Option.map_map Function.comp_def awant aop acall ado aev ofVal ofVal0 ASt.put ASt.add ASt.turn ASt.kill abox aalloc astore aload aloadD astoreD idOf ASt.at cellsTo afieldAddr afield aindexAddr aindex alen abin aint acmp astr aun apick aextract anil aslice abound abuild afill abuildSlice asCells aps avCells over upd aappend asrc amax amin aconv mkSt slots rowsOf_cons rowsOf_nil usedOf_cons usedOf_nil ZK.av List.replicate ASt.back ASt.addL ASt.killL nodeA nodeT nodeTL_eq nodeL_eq strsE_get strsE_len intsE_get intsE_len strsE_at intsE_at nodeN namesRow nodeO kidsRow tab2 tab3 tab4 tab5 tab6 tab7 tab8 tab9 tab10 tab11 tab12 tab13 tab14 tab15 tab16 tab17 tab18 tab19 tab21 tab22 tab23 tab24 tab25 tab26 tab28 tab29 tab30 tab31 tab42 tab43 tab44 tab46 tab63 tab64 tab67 tab68 tab75 tab98 tab100 tab101 tab105 tab106 tab107 tab122 tab123 tab125 tab128 tab138 tab144 tab151 tab152 tab157 tab158 tab160 tab161 tab162
theorem AC.toR {P : Program} {f : FuncId} {args : List AV} {c : Nat} {Q : AV → Prop} (h : AC P f args c Q) : ACR P f args c Q (fun _ _ => False) :=
  ⟨h.1, fun w L S rb k vs h0 h1 h2 h3 => (h.2 w L S rb k vs h0 h1 h2 h3).mono fun _ _ ⟨v, r, S', k1, k2, k3, k4, k5, k6, k7⟩ => ⟨v, S', k1, k2, k3, k4, k5, .inl ⟨r, k6, k7⟩⟩⟩
end Go.Proofs.YtfjaobfaepjfnaaDoor.Eng
-- EV: rows skip
namespace Go.Proofs.YtfjaobfaepjfnaaDoor.Eng
open Go Go.RowKit
attribute [local simp] big size_mk ASt.pay Option.map_map Function.comp_def awant aop acall ado aev ofVal ofVal0 ASt.put ASt.add ASt.turn ASt.kill abox aalloc astore aload aloadD astoreD idOf ASt.at cellsTo afieldAddr afield aindexAddr aindex alen abin aint acmp astr aun apick aextract anil aslice abound abuild afill abuildSlice asCells aps avCells over upd aappend asrc amax amin aconv mkSt slots rowsOf_cons rowsOf_nil usedOf_cons usedOf_nil ZK.av List.replicate ASt.back ASt.addL ASt.killL nodeA nodeT nodeTL_eq nodeL_eq strsE_get strsE_len intsE_get intsE_len strsE_at intsE_at nodeN namesRow nodeO kidsRow tab2 tab3 tab4 tab5 tab6 tab7 tab8 tab9 tab10 tab11 tab12 tab13 tab14 tab15 tab16 tab17 tab18 tab19 tab21 tab22 tab23 tab24 tab25 tab26 tab28 tab29 tab30 tab31 tab42 tab43 tab44 tab46 tab63 tab64 tab67 tab68 tab75 tab98 tab100 tab101 tab105 tab106 tab107 tab122 tab123 tab125 tab128 tab138 tab144 tab151 tab152 tab157 tab158 tab160 tab161 tab162
theorem rNB_wk {o : Option Nd} {r : AV} (h : rNB (o.getD Nd.zero) o.isSome r) : Wk r (optA o) := by
  obtain ⟨l, hl, _, rfl⟩ := h
  unfold optA
  rw [← hl]
  exact .tup (.cons (.agg (labL_wk l)) (.cons (Wk.refl _) .nil))
theorem SetNode_AC (t : VC) (n : Nd) (p : List ByteArray) (v : Nd) : AC Tryd.prog 38 [nodeA n, .view t 1 (strsE p), nodeA v] 0 (fun r => r = optA (setO n p v)) := by
  refine AC.weak ((SetNode_ACF t n p v).toAC.mono (fun r h => ⟨_, rNB_wk h, rfl⟩))
set_option maxRecDepth 100000
set_option maxHeartbeats 16000000
end Go.Proofs.YtfjaobfaepjfnaaDoor.Eng
namespace Go.Proofs.YtfjaobfaepjfnaaDoor.Eng
open Go Go.RowKit
attribute [local simp] big size_mk ASt.pay Option.map_map Function.comp_def awant aop acall ado aev ofVal ofVal0 ASt.put ASt.add ASt.turn ASt.kill abox aalloc astore aload aloadD astoreD idOf ASt.at cellsTo afieldAddr afield aindexAddr aindex alen abin aint acmp astr aun apick aextract anil aslice abound abuild afill abuildSlice asCells aps avCells over upd aappend asrc amax amin aconv mkSt slots rowsOf_cons rowsOf_nil usedOf_cons usedOf_nil ZK.av List.replicate ASt.back ASt.addL ASt.killL nodeA nodeT nodeTL_eq nodeL_eq strsE_get strsE_len intsE_get intsE_len strsE_at intsE_at tab2 tab3 tab4 tab5 tab6 tab7 tab8 tab9 tab10 tab11 tab12 tab13 tab14 tab15 tab16 tab17 tab18 tab19 tab21 tab22 tab23 tab24 tab25 tab26 tab28 tab29 tab30 tab31 tab42 tab43 tab44 tab46 tab63 tab64 tab67 tab68 tab75 tab98 tab100 tab101 tab105 tab106 tab107 tab122 tab123 tab125 tab128 tab138 tab144 tab151 tab152 tab157 tab158 tab160 tab161 tab162
def findR (id : Nat) : Code → Option (Array Oper)
  | .region i ops _ => if i = id then some ops else none
  | .seq a b => match findR id a with | some o => some o | none => findR id b
  | .cond _ a b => match findR id a with | some o => some o | none => findR id b
  | .block _ a => findR id a
  | .loop a => findR id a
  | .scope a => findR id a
  | _ => none
def cellsN (m : Nd) : List AV := [.int .i64 m.kind, .int .i64 m.num, .str m.text, .view .loose 1 (strsE m.names), .view .loose 5 (m.kids.map nodeL)]
set_option maxRecDepth 100000
set_option maxHeartbeats 8000000
theorem rgn11 {Av : Nat → Prop} {K : ASt → Prop} (n : Nd) (p : List ByteArray) (x : Nd) (kn : costN n ≤ 1048576) (kp : costS p ≤ 1048576) (kx : costN x ≤ 1048576) {ops : Array Oper} (h : Tryd.f6.body.bind (findR 11) = some ops)
    (hK : ∀ s' : ASt, s'.tmps[8]? = some (.ptr true 5 1 8 0 0) ∧ s'.tmps[9]? = some (.bool (setB n p x)) ∧ s'.rows 8 = some ⟨true, 26, 5, [nodeL (setN n p x)]⟩ → K s') :
    ARunD Tryd.prog tab [] Av (pcs [(1, 0, fun r => r = .agg (cellsN n)), (3, 0, fun r => r = .view .loose 1 (strsE p)), (5, 0, fun r => r = .agg (cellsN x)), (6, 0, fun r => r = .tup [.agg (cellsN (setN n p x)), .bool (setB n p x)])] []) ops K ops.toList 0 (midSt (slots 0 142 [(1, .view .loose 1 (strsE p)), (3, .eptr .loose (nodeL n)), (5, .eptr .loose (nodeL x))])) := by
  have p1 := toNode_AC n kn
  have p2 := toStrs_AC p kp
  have p3 := toNode_AC x kx
  have p4 := specSetNode_AC .loose n p x
  have hcn := node_clo n
  have hcx := node_clo x
  have hcp : Clo (.view .loose 1 (strsE p)) := strs_clo p
  have ex := optS_in (setN n p x)
  unfold optA at p4
  unfold setN setB at *
  generalize (setO n p x).getD Nd.zero = m at *
  generalize (setO n p x).isSome = b at *
  unfold nodeA at p1 p3 p4 hcn hcx
  unfold cellsN midSt
  rw [nodeL_eq m] at hK p4
  rw [nodeL_eq n] at p1 p4 hcn ⊢
  rw [nodeL_eq x] at p3 p4 hcx ⊢
  have hin : NoId (.tup [.agg [.int .i64 m.kind, .int .i64 m.num, .str m.text, .view .loose 1 (strsE m.names), .view .loose 5 (m.kids.map nodeL)], .bool b]) := by
    have := optS_in m
    unfold NoId at this ⊢
    simp only [in_tup, List.forall_mem_cons, List.not_mem_nil, false_implies, implies_true, and_true] at this ⊢
    exact ⟨this.1, in_bool⟩
  cases h
  (repeat (first | with_reducible refine AW.seq ?_ | ((first | refine arun_kn 4 rfl (fun C hC => ?_) | refine arunD_kn 4 rfl (fun C hC => ?_)); (repeat ((conv => whnf); simp)); refine hC _ ?_; clear hC C; simp only [List.drop, Nat.reduceAdd]) | ((first | refine arun_kn 1 rfl (fun C hC => ?_) | refine arunD_kn 1 rfl (fun C hC => ?_)); (repeat ((conv => whnf); simp)); refine hC _ ?_; clear hC C; simp only [List.drop, Nat.reduceAdd]) | (refine arun_skip ?_ ?_; (focus (simp [awant]; done))) | (refine arun_c0 (p1) ?_; rintro _ rfl) | (refine arun_c0 (p2) ?_; rintro _ rfl) | (refine arun_c0 (p3) ?_; rintro _ rfl) | (refine arun_c0 (p4) ?_; rintro _ rfl) | (refine arunD_c (0) (p1) ?_; rintro _ rfl; intro _) | (refine arunD_c (0) (p2) ?_; rintro _ rfl; intro _) | (refine arunD_c (0) (p3) ?_; rintro _ rfl; intro _) | (refine arunD_cE (0) (p4) (by exact ⟨_, rfl, hin⟩) ?_; rintro _ rfl; intro _) | (refine AW.regionK [] (fun K hK => ?_)) | (refine AW.regionDK [] (pcs [(1, 0, fun r => r = .agg (cellsN n))] []) (by kernel_rfl) (by kernel_rfl) (fun K hK => ?_)) | (refine AW.condT ?_ ?_; (focus (simp [aev]; done))) | (refine AW.condF ?_ ?_; (focus (simp [aev]; done))) | with_reducible refine AW.block ?_ | ((first | ((first | refine arun_nil ?_ | refine arunD_nil ?_); refine hK _ ?_; clear hK K) | refine AW.skip ?_ | refine AW.exit ?_ | refine AW.ret ?_); simp only [thenA_exit, inBlockA_exit, if_true, if_false, Nat.reduceEqDiff, thenA_normal, inBlockA_normal, reduceIte, thenA_ret, inBlockA_ret, endQ_ret, endR_ret, endG_ret, endQ_normal, endR_normal, endG_normal])))
  exact ⟨by simp, by simp, by simp [upd]⟩
theorem rgn38 {Av : Nat → Prop} {K : ASt → Prop} (n : Nd) (p : List ByteArray) (x : Nd) (kn : costN n ≤ 1048576) (kp : costS p ≤ 1048576) (kx : costN x ≤ 1048576) {ops : Array Oper} (h : Tryd.f6.body.bind (findR 38) = some ops)
    (hK : ∀ s' : ASt, s'.tmps[18]? = some (.ptr true 5 1 18 0 0) ∧ s'.tmps[19]? = some (.bool (setB n p x)) ∧ s'.rows 18 = some ⟨true, 26, 5, [nodeL (setN n p x)]⟩ → K s') :
    ARunD Tryd.prog tab [] Av (pcs [(1, 0, fun r => r = .agg (cellsN n)), (3, 0, fun r => r = .view .loose 1 (strsE p)), (5, 0, fun r => r = .agg (cellsN x)), (6, 0, fun r => r = .tup [.agg (cellsN (setN n p x)), .bool (setB n p x)])] []) ops K ops.toList 0 (midSt (slots 0 142 [(1, .view .loose 1 (strsE p)), (3, .eptr .loose (nodeL n)), (5, .eptr .loose (nodeL x))])) := by
  have p1 := toNode_AC n kn
  have p2 := toStrs_AC p kp
  have p3 := toNode_AC x kx
  have p4 := SetNode_AC .loose n p x
  have hcn := node_clo n
  have hcx := node_clo x
  have hcp : Clo (.view .loose 1 (strsE p)) := strs_clo p
  have ex := optS_in (setN n p x)
  unfold optA at p4
  unfold setN setB at *
  generalize (setO n p x).getD Nd.zero = m at *
  generalize (setO n p x).isSome = b at *
  unfold nodeA at p1 p3 p4 hcn hcx
  unfold cellsN midSt
  rw [nodeL_eq m] at hK p4
  rw [nodeL_eq n] at p1 p4 hcn ⊢
  rw [nodeL_eq x] at p3 p4 hcx ⊢
  have hin : NoId (.tup [.agg [.int .i64 m.kind, .int .i64 m.num, .str m.text, .view .loose 1 (strsE m.names), .view .loose 5 (m.kids.map nodeL)], .bool b]) := by
    have := optS_in m
    unfold NoId at this ⊢
    simp only [in_tup, List.forall_mem_cons, List.not_mem_nil, false_implies, implies_true, and_true] at this ⊢
    exact ⟨this.1, in_bool⟩
  cases h
  (repeat (first | with_reducible refine AW.seq ?_ | ((first | refine arun_kn 4 rfl (fun C hC => ?_) | refine arunD_kn 4 rfl (fun C hC => ?_)); (repeat ((conv => whnf); simp)); refine hC _ ?_; clear hC C; simp only [List.drop, Nat.reduceAdd]) | ((first | refine arun_kn 1 rfl (fun C hC => ?_) | refine arunD_kn 1 rfl (fun C hC => ?_)); (repeat ((conv => whnf); simp)); refine hC _ ?_; clear hC C; simp only [List.drop, Nat.reduceAdd]) | (refine arun_skip ?_ ?_; (focus (simp [awant]; done))) | (refine arun_c0 (p1) ?_; rintro _ rfl) | (refine arun_c0 (p2) ?_; rintro _ rfl) | (refine arun_c0 (p3) ?_; rintro _ rfl) | (refine arun_c0 (p4) ?_; rintro _ rfl) | (refine arunD_c (0) (p1) ?_; rintro _ rfl; intro _) | (refine arunD_c (0) (p2) ?_; rintro _ rfl; intro _) | (refine arunD_c (0) (p3) ?_; rintro _ rfl; intro _) | (refine arunD_cE (0) (p4) (by exact ⟨_, rfl, hin⟩) ?_; rintro _ rfl; intro _) | (refine AW.regionK [] (fun K hK => ?_)) | (refine AW.regionDK [] (pcs [(1, 0, fun r => r = .agg (cellsN n))] []) (by kernel_rfl) (by kernel_rfl) (fun K hK => ?_)) | (refine AW.condT ?_ ?_; (focus (simp [aev]; done))) | (refine AW.condF ?_ ?_; (focus (simp [aev]; done))) | with_reducible refine AW.block ?_ | ((first | ((first | refine arun_nil ?_ | refine arunD_nil ?_); refine hK _ ?_; clear hK K) | refine AW.skip ?_ | refine AW.exit ?_ | refine AW.ret ?_); simp only [thenA_exit, inBlockA_exit, if_true, if_false, Nat.reduceEqDiff, thenA_normal, inBlockA_normal, reduceIte, thenA_ret, inBlockA_ret, endQ_ret, endR_ret, endG_ret, endQ_normal, endR_normal, endG_normal])))
  exact ⟨by simp, by simp, by simp [upd]⟩
theorem setRgn11 {w : World} {a : Act} {Q : Exit → Act → World → Prop} (n : Nd) (p : List ByteArray) (x : Nd) (kn : costN n ≤ 1048576) (kp : costS p ≤ 1048576) (kx : costN x ≤ 1048576) {l : List Oper} (h : Tryd.f6.body.bind (findR 11) = some l.toArray) (hB : Region.lexB .any l.toArray = true) (hc : cmpL [] [] l.toArray = true) (hD : dstsIn [36, 37, 38, 39, 40, 41, 42, 35, 43, 44, 8, 9] l.toArray = true)
    {v1 : Value} {b3 b5 : Nat} {c3 c5 : List Value} (hd : a.defers = []) (hsz : a.tmps.toList.length = 142) (t1 : a.tmps.toList[1]? = some v1) (t3 : a.tmps.toList[3]? = some (.pointer (some ⟨b3, 0, none⟩))) (t5 : a.tmps.toList[5]? = some (.pointer (some ⟨b5, 0, none⟩))) (B3 : BoxN w b3 c3) (B5 : BoxN w b5 c5)
    (R1 : RV strsRep packO w Go.Proofs.YtfjaobfaepjfnaaDoor.any p v1) (R3 : RV nodeRep packA w Go.Proofs.YtfjaobfaepjfnaaDoor.any n (.agg c3.toArray)) (R5 : RV nodeRep packA w Go.Proofs.YtfjaobfaepjfnaaDoor.any x (.agg c5.toArray))
    (hQ : ∀ (w' : World) (f : Nat → Value) (g : Nat) (xs : List Value), Grow w w' → f 8 = .pointer (some ⟨g, 0, none⟩) → f 9 = .bool (setB n p x) → BoxN w' g xs → RV nodeRep packA w' Go.Proofs.YtfjaobfaepjfnaaDoor.any (setN n p x) (.agg xs.toArray) → Q .normal ⟨laidOver f [36, 37, 38, 39, 40, 41, 42, 35, 43, 44, 8, 9] a.tmps, []⟩ w') : (Code.region 11 l.toArray true).wp Tryd.prog Q a w := by
  refine region_worldK (S := fun b => b < w.heap.size) tab_ok mixed_ok [] (pcs [(1, 0, fun r => r = .agg (cellsN n)), (3, 0, fun r => r = .view .loose 1 (strsE p)), (5, 0, fun r => r = .agg (cellsN x)), (6, 0, fun r => r = .tup [.agg (cellsN (setN n p x)), .bool (setB n p x)])] []) (fun s' : ASt => s'.tmps[8]? = some (.ptr true 5 1 8 0 0) ∧ s'.tmps[9]? = some (.bool (setB n p x)) ∧ s'.rows 8 = some ⟨true, 26, 5, [nodeL (setN n p x)]⟩) hB hc (mid_SR (cs := slots 0 142 [(1, .view .loose 1 (strsE p)), (3, .eptr .loose (nodeL n)), (5, .eptr .loose (nodeL x))]) hd (repL_slots 142 0 _ _ hsz (by simp) ?_)) (fun K' hK' => rgn11 n p x kn kp kx h hK') ?_
  · simp only [List.forall_mem_cons, List.not_mem_nil, false_implies, implies_true, and_true]
    exact ⟨⟨Nat.zero_le _, v1, t1, arg_strs R1⟩, ⟨Nat.zero_le _, _, t3, eptr_node B3 R3⟩, ⟨Nat.zero_le _, _, t5, eptr_node B5 R5⟩⟩
  · rintro s' w' a' ρ' hS ⟨k1, k2, k3⟩ hk
    obtain ⟨f, h1, h2⟩ := keeps_lit hk [36, 37, 38, 39, 40, 41, 42, 35, 43, 44, 8, 9] hD
    obtain ⟨g, xs, g1, g2, g3, g4⟩ := box_of_row hS k1 k3 rfl
    obtain ⟨v, hv, hr⟩ := hS.tm.get k2
    rw [rep_bool] at hr
    subst hr
    have hdf := hS.df
    have hx : Grow w w' := hS.ext.mono (fun b h => h.elim (fun h => by cases h) (fun h => h))
    have hrv := node_shut (nodeA_of_rep (rep_agg.2 ⟨xs, rfl, g4, g3⟩))
    have := hQ w' f g xs hx (h2 _ _ g1) (h2 _ _ (by rw [← Array.getElem?_toList]; exact hv)) g2 hrv
    rw [← h1, ← hdf] at this
    exact this
theorem setRgn38 {w : World} {a : Act} {Q : Exit → Act → World → Prop} (n : Nd) (p : List ByteArray) (x : Nd) (kn : costN n ≤ 1048576) (kp : costS p ≤ 1048576) (kx : costN x ≤ 1048576) {l : List Oper} (h : Tryd.f6.body.bind (findR 38) = some l.toArray) (hB : Region.lexB .any l.toArray = true) (hc : cmpL [] [] l.toArray = true) (hD : dstsIn [116, 117, 118, 119, 120, 121, 122, 115, 123, 124, 18, 19] l.toArray = true)
    {v1 : Value} {b3 b5 : Nat} {c3 c5 : List Value} (hd : a.defers = []) (hsz : a.tmps.toList.length = 142) (t1 : a.tmps.toList[1]? = some v1) (t3 : a.tmps.toList[3]? = some (.pointer (some ⟨b3, 0, none⟩))) (t5 : a.tmps.toList[5]? = some (.pointer (some ⟨b5, 0, none⟩))) (B3 : BoxN w b3 c3) (B5 : BoxN w b5 c5)
    (R1 : RV strsRep packO w Go.Proofs.YtfjaobfaepjfnaaDoor.any p v1) (R3 : RV nodeRep packA w Go.Proofs.YtfjaobfaepjfnaaDoor.any n (.agg c3.toArray)) (R5 : RV nodeRep packA w Go.Proofs.YtfjaobfaepjfnaaDoor.any x (.agg c5.toArray))
    (hQ : ∀ (w' : World) (f : Nat → Value) (g : Nat) (xs : List Value), Grow w w' → f 18 = .pointer (some ⟨g, 0, none⟩) → f 19 = .bool (setB n p x) → BoxN w' g xs → RV nodeRep packA w' Go.Proofs.YtfjaobfaepjfnaaDoor.any (setN n p x) (.agg xs.toArray) → Q .normal ⟨laidOver f [116, 117, 118, 119, 120, 121, 122, 115, 123, 124, 18, 19] a.tmps, []⟩ w') : (Code.region 38 l.toArray true).wp Tryd.prog Q a w := by
  refine region_worldK (S := fun b => b < w.heap.size) tab_ok mixed_ok [] (pcs [(1, 0, fun r => r = .agg (cellsN n)), (3, 0, fun r => r = .view .loose 1 (strsE p)), (5, 0, fun r => r = .agg (cellsN x)), (6, 0, fun r => r = .tup [.agg (cellsN (setN n p x)), .bool (setB n p x)])] []) (fun s' : ASt => s'.tmps[18]? = some (.ptr true 5 1 18 0 0) ∧ s'.tmps[19]? = some (.bool (setB n p x)) ∧ s'.rows 18 = some ⟨true, 26, 5, [nodeL (setN n p x)]⟩) hB hc (mid_SR (cs := slots 0 142 [(1, .view .loose 1 (strsE p)), (3, .eptr .loose (nodeL n)), (5, .eptr .loose (nodeL x))]) hd (repL_slots 142 0 _ _ hsz (by simp) ?_)) (fun K' hK' => rgn38 n p x kn kp kx h hK') ?_
  · simp only [List.forall_mem_cons, List.not_mem_nil, false_implies, implies_true, and_true]
    exact ⟨⟨Nat.zero_le _, v1, t1, arg_strs R1⟩, ⟨Nat.zero_le _, _, t3, eptr_node B3 R3⟩, ⟨Nat.zero_le _, _, t5, eptr_node B5 R5⟩⟩
  · rintro s' w' a' ρ' hS ⟨k1, k2, k3⟩ hk
    obtain ⟨f, h1, h2⟩ := keeps_lit hk [116, 117, 118, 119, 120, 121, 122, 115, 123, 124, 18, 19] hD
    obtain ⟨g, xs, g1, g2, g3, g4⟩ := box_of_row hS k1 k3 rfl
    obtain ⟨v, hv, hr⟩ := hS.tm.get k2
    rw [rep_bool] at hr
    subst hr
    have hdf := hS.df
    have hx : Grow w w' := hS.ext.mono (fun b h => h.elim (fun h => by cases h) (fun h => h))
    have hrv := node_shut (nodeA_of_rep (rep_agg.2 ⟨xs, rfl, g4, g3⟩))
    have := hQ w' f g xs hx (h2 _ _ g1) (h2 _ _ (by rw [← Array.getElem?_toList]; exact hv)) g2 hrv
    rw [← h1, ← hdf] at this
    exact this
end Go.Proofs.YtfjaobfaepjfnaaDoor.Eng
namespace Go.Proofs.YtfjaobfaepjfnaaDoor
open Go.RowKit
theorem lawSet_big (n : Nd) (p : List ByteArray) (x : Nd) (v0 : Value) (v1 : Value) (v2 : Value) (w : World) (h0 : RV nodeRep packA w any n v0) (h1 : RV strsRep packO w any p v1) (h2 : RV nodeRep packA w any x v2) (hbig : ¬ costN n + costS p + costN x ≤ 1048576) :
    Calls Tryd.prog 6 #[v0, v1, v2] w fun e w' => e = .returned (.bool true) ∧ Grow w w' := by
  have HV0 := Lib.hid h0
  have HV1 := Lib.hid h1
  have HV2 := Lib.hid h2
  obtain ⟨na0, nc0, ka0, kc0, rfl⟩ := openV_node h0
  obtain ⟨na2, nc2, ka2, kc2, rfl⟩ := openV_node h2
  clear h0 h1 h2
  unfold nodeV at *
  by_cases c0 : (costN n : Int) ≤ 1048576
  rotate_left
  ·
    have Hs0 := Lib.hid (szR_neg (c := costN n) (left := 1048576) (by omega))
    clear c0 hbig
    have HB0 := Lib.hid ((BoxN.new w [.int .i64 n.kind, .int .i64 n.num, .string n.text, .slice na0 n.names.length nc0, .slice ka0 n.kids.length kc0] 44).grow ((Ext.refl nil _).alloc (.cells ([.int .i64 x.kind, .int .i64 x.num, .string x.text, .slice na2 x.names.length nc2, .slice ka2 x.kids.length kc2] : List Value).toArray 44)))
    have HB2 := Lib.hid (BoxN.new1 w (.cells ([.int .i64 n.kind, .int .i64 n.num, .string n.text, .slice na0 n.names.length nc0, .slice ka0 n.kids.length kc0] : List Value).toArray 44) [.int .i64 x.kind, .int .i64 x.num, .string x.text, .slice na2 x.names.length nc2, .slice ka2 x.kids.length kc2] 44)
    go_enter Tryd.func6, Tryd.ntmps6
    go_wp2_with fail
    refine (uSzN n _ _ _ (by omega) (by omega) (HV0.out.grow (by repeat (first | with_reducible exact Ext.refl _ _ | with_reducible refine Ext.trans ?_ (by assumption) | with_reducible refine Ext.drew ?_ | with_reducible refine Ext.drewN ?_ _ | with_reducible refine Ext.alloc ?_ _ | with_reducible refine Ext.setNew ?_ (by simp; done) _ | with_reducible refine Ext.setNew ?_ (by simp; omega) _)))).mono ?_
    rintro e w1 ⟨rfl, hg1⟩
    simp only [Hs0.out]
    have z1 := hg1.size
    try simp only [World.size_alloc] at z1
    go_wp2_with fail
    go_ret
    exact ⟨by simp, (by repeat (first | with_reducible exact Ext.refl _ _ | with_reducible refine Ext.trans ?_ (by assumption) | with_reducible refine Ext.drew ?_ | with_reducible refine Ext.drewN ?_ _ | with_reducible refine Ext.alloc ?_ _ | with_reducible refine Ext.setNew ?_ (by simp; done) _ | with_reducible refine Ext.setNew ?_ (by simp; omega) _))⟩
  have Hs0 := Lib.hid (szR_pos (c := costN n) (left := 1048576) (by omega))
  by_cases c1 : (costS p : Int) ≤ 1048576 - costN n
  rotate_left
  ·
    have Hs1 := Lib.hid (szR_neg (c := costS p) (left := 1048576 - costN n) (by omega))
    clear c1 hbig
    have HB0 := Lib.hid ((BoxN.new w [.int .i64 n.kind, .int .i64 n.num, .string n.text, .slice na0 n.names.length nc0, .slice ka0 n.kids.length kc0] 44).grow ((Ext.refl nil _).alloc (.cells ([.int .i64 x.kind, .int .i64 x.num, .string x.text, .slice na2 x.names.length nc2, .slice ka2 x.kids.length kc2] : List Value).toArray 44)))
    have HB2 := Lib.hid (BoxN.new1 w (.cells ([.int .i64 n.kind, .int .i64 n.num, .string n.text, .slice na0 n.names.length nc0, .slice ka0 n.kids.length kc0] : List Value).toArray 44) [.int .i64 x.kind, .int .i64 x.num, .string x.text, .slice na2 x.names.length nc2, .slice ka2 x.kids.length kc2] 44)
    go_enter Tryd.func6, Tryd.ntmps6
    go_wp2_with fail
    refine (uSzN n _ _ _ (by omega) (by omega) (HV0.out.grow (by repeat (first | with_reducible exact Ext.refl _ _ | with_reducible refine Ext.trans ?_ (by assumption) | with_reducible refine Ext.drew ?_ | with_reducible refine Ext.drewN ?_ _ | with_reducible refine Ext.alloc ?_ _ | with_reducible refine Ext.setNew ?_ (by simp; done) _ | with_reducible refine Ext.setNew ?_ (by simp; omega) _)))).mono ?_
    rintro e w1 ⟨rfl, hg1⟩
    simp only [Hs0.out]
    have z1 := hg1.size
    try simp only [World.size_alloc] at z1
    go_wp2_with fail
    refine (uSzS p _ _ _ (by omega) (by omega) (HV1.out.grow (by repeat (first | with_reducible exact Ext.refl _ _ | with_reducible refine Ext.trans ?_ (by assumption) | with_reducible refine Ext.drew ?_ | with_reducible refine Ext.drewN ?_ _ | with_reducible refine Ext.alloc ?_ _ | with_reducible refine Ext.setNew ?_ (by simp; done) _ | with_reducible refine Ext.setNew ?_ (by simp; omega) _)))).mono ?_
    rintro e w2 ⟨rfl, hg2⟩
    simp only [Hs1.out]
    have z2 := hg2.size
    try simp only [World.size_alloc] at z2
    go_wp2_with fail
    go_ret
    exact ⟨by simp, (by repeat (first | with_reducible exact Ext.refl _ _ | with_reducible refine Ext.trans ?_ (by assumption) | with_reducible refine Ext.drew ?_ | with_reducible refine Ext.drewN ?_ _ | with_reducible refine Ext.alloc ?_ _ | with_reducible refine Ext.setNew ?_ (by simp; done) _ | with_reducible refine Ext.setNew ?_ (by simp; omega) _))⟩
  have Hs1 := Lib.hid (szR_pos (c := costS p) (left := 1048576 - costN n) (by omega))
  by_cases c2 : (costN x : Int) ≤ 1048576 - costN n - costS p
  rotate_left
  ·
    have Hs2 := Lib.hid (szR_neg (c := costN x) (left := 1048576 - costN n - costS p) (by omega))
    clear c2 hbig
    have HB0 := Lib.hid ((BoxN.new w [.int .i64 n.kind, .int .i64 n.num, .string n.text, .slice na0 n.names.length nc0, .slice ka0 n.kids.length kc0] 44).grow ((Ext.refl nil _).alloc (.cells ([.int .i64 x.kind, .int .i64 x.num, .string x.text, .slice na2 x.names.length nc2, .slice ka2 x.kids.length kc2] : List Value).toArray 44)))
    have HB2 := Lib.hid (BoxN.new1 w (.cells ([.int .i64 n.kind, .int .i64 n.num, .string n.text, .slice na0 n.names.length nc0, .slice ka0 n.kids.length kc0] : List Value).toArray 44) [.int .i64 x.kind, .int .i64 x.num, .string x.text, .slice na2 x.names.length nc2, .slice ka2 x.kids.length kc2] 44)
    go_enter Tryd.func6, Tryd.ntmps6
    go_wp2_with fail
    refine (uSzN n _ _ _ (by omega) (by omega) (HV0.out.grow (by repeat (first | with_reducible exact Ext.refl _ _ | with_reducible refine Ext.trans ?_ (by assumption) | with_reducible refine Ext.drew ?_ | with_reducible refine Ext.drewN ?_ _ | with_reducible refine Ext.alloc ?_ _ | with_reducible refine Ext.setNew ?_ (by simp; done) _ | with_reducible refine Ext.setNew ?_ (by simp; omega) _)))).mono ?_
    rintro e w1 ⟨rfl, hg1⟩
    simp only [Hs0.out]
    have z1 := hg1.size
    try simp only [World.size_alloc] at z1
    go_wp2_with fail
    refine (uSzS p _ _ _ (by omega) (by omega) (HV1.out.grow (by repeat (first | with_reducible exact Ext.refl _ _ | with_reducible refine Ext.trans ?_ (by assumption) | with_reducible refine Ext.drew ?_ | with_reducible refine Ext.drewN ?_ _ | with_reducible refine Ext.alloc ?_ _ | with_reducible refine Ext.setNew ?_ (by simp; done) _ | with_reducible refine Ext.setNew ?_ (by simp; omega) _)))).mono ?_
    rintro e w2 ⟨rfl, hg2⟩
    simp only [Hs1.out]
    have z2 := hg2.size
    try simp only [World.size_alloc] at z2
    have pB := HB2.out.grow (w' := w2) (by repeat (first | with_reducible exact Ext.refl _ _ | with_reducible refine Ext.trans ?_ (by assumption) | with_reducible refine Ext.drew ?_ | with_reducible refine Ext.drewN ?_ _ | with_reducible refine Ext.alloc ?_ _ | with_reducible refine Ext.setNew ?_ (by simp; done) _ | with_reducible refine Ext.setNew ?_ (by simp; omega) _))
    have p0 := pB.cell 0 _ rfl; have p1 := pB.cell 1 _ rfl; have p2 := pB.cell 2 _ rfl; have p3 := pB.cell 3 _ rfl; have p4 := pB.cell 4 _ rfl
    go_wp2_with fail
    refine (uSzN x _ _ _ (by omega) (by omega) (HV2.out.grow (by repeat (first | with_reducible exact Ext.refl _ _ | with_reducible refine Ext.trans ?_ (by assumption) | with_reducible refine Ext.drew ?_ | with_reducible refine Ext.drewN ?_ _ | with_reducible refine Ext.alloc ?_ _ | with_reducible refine Ext.setNew ?_ (by simp; done) _ | with_reducible refine Ext.setNew ?_ (by simp; omega) _)))).mono ?_
    rintro e w3 ⟨rfl, hg3⟩
    simp only [Hs2.out]
    have z3 := hg3.size
    try simp only [World.size_alloc] at z3
    clear p0 p1 p2 p3 p4 pB
    go_wp2_with fail
    go_ret
    exact ⟨by simp, (by repeat (first | with_reducible exact Ext.refl _ _ | with_reducible refine Ext.trans ?_ (by assumption) | with_reducible refine Ext.drew ?_ | with_reducible refine Ext.drewN ?_ _ | with_reducible refine Ext.alloc ?_ _ | with_reducible refine Ext.setNew ?_ (by simp; done) _ | with_reducible refine Ext.setNew ?_ (by simp; omega) _))⟩
  have Hs2 := Lib.hid (szR_pos (c := costN x) (left := 1048576 - costN n - costS p) (by omega))
  omega
theorem lawSet_main (n : Nd) (p : List ByteArray) (x : Nd) (v0 : Value) (v1 : Value) (v2 : Value) (w : World) (h0 : RV nodeRep packA w any n v0) (h1 : RV strsRep packO w any p v1) (h2 : RV nodeRep packA w any x v2) (hcost : costN n + costS p + costN x ≤ 1048576) :
    Calls Tryd.prog 6 #[v0, v1, v2] w fun e w' => e = .returned (.bool true) ∧ Grow w w' := by
  have HV0 := Lib.hid h0
  have HV1 := Lib.hid h1
  have HV2 := Lib.hid h2
  obtain ⟨na0, nc0, ka0, kc0, rfl⟩ := openV_node h0
  obtain ⟨na2, nc2, ka2, kc2, rfl⟩ := openV_node h2
  clear h0 h1 h2
  unfold nodeV at *
  have Hs0 := Lib.hid (szR_pos (c := costN n) (left := 1048576) (by omega))
  have Hs1 := Lib.hid (szR_pos (c := costS p) (left := 1048576 - costN n) (by omega))
  have Hs2 := Lib.hid (szR_pos (c := costN x) (left := 1048576 - costN n - costS p) (by omega))
  have C0 : Hid (costN n ≤ 1048576) := Lib.hid (by omega)
  have C1 : Hid (costS p ≤ 1048576) := Lib.hid (by omega)
  have C2 : Hid (costN x ≤ 1048576) := Lib.hid (by omega)
  have HB0 := Lib.hid ((BoxN.new w [.int .i64 n.kind, .int .i64 n.num, .string n.text, .slice na0 n.names.length nc0, .slice ka0 n.kids.length kc0] 44).grow ((Ext.refl nil _).alloc (.cells ([.int .i64 x.kind, .int .i64 x.num, .string x.text, .slice na2 x.names.length nc2, .slice ka2 x.kids.length kc2] : List Value).toArray 44)))
  have HB2 := Lib.hid (BoxN.new1 w (.cells ([.int .i64 n.kind, .int .i64 n.num, .string n.text, .slice na0 n.names.length nc0, .slice ka0 n.kids.length kc0] : List Value).toArray 44) [.int .i64 x.kind, .int .i64 x.num, .string x.text, .slice na2 x.names.length nc2, .slice ka2 x.kids.length kc2] 44)
  go_enter Tryd.func6, Tryd.ntmps6
  go_wp2_with fail
  refine (uSzN n _ _ _ (by omega) (by omega) (HV0.out.grow (by repeat (first | with_reducible exact Ext.refl _ _ | with_reducible refine Ext.trans ?_ (by assumption) | with_reducible refine Ext.drew ?_ | with_reducible refine Ext.drewN ?_ _ | with_reducible refine Ext.alloc ?_ _ | with_reducible refine Ext.setNew ?_ (by simp; done) _ | with_reducible refine Ext.setNew ?_ (by simp; omega) _)))).mono ?_
  rintro e w1 ⟨rfl, hg1⟩
  simp only [Hs0.out]
  have z1 := hg1.size
  try simp only [World.size_alloc] at z1
  go_wp2_with fail
  refine (uSzS p _ _ _ (by omega) (by omega) (HV1.out.grow (by repeat (first | with_reducible exact Ext.refl _ _ | with_reducible refine Ext.trans ?_ (by assumption) | with_reducible refine Ext.drew ?_ | with_reducible refine Ext.drewN ?_ _ | with_reducible refine Ext.alloc ?_ _ | with_reducible refine Ext.setNew ?_ (by simp; done) _ | with_reducible refine Ext.setNew ?_ (by simp; omega) _)))).mono ?_
  rintro e w2 ⟨rfl, hg2⟩
  simp only [Hs1.out]
  have z2 := hg2.size
  try simp only [World.size_alloc] at z2
  have pB := HB2.out.grow (w' := w2) (by repeat (first | with_reducible exact Ext.refl _ _ | with_reducible refine Ext.trans ?_ (by assumption) | with_reducible refine Ext.drew ?_ | with_reducible refine Ext.drewN ?_ _ | with_reducible refine Ext.alloc ?_ _ | with_reducible refine Ext.setNew ?_ (by simp; done) _ | with_reducible refine Ext.setNew ?_ (by simp; omega) _))
  have p0 := pB.cell 0 _ rfl; have p1 := pB.cell 1 _ rfl; have p2 := pB.cell 2 _ rfl; have p3 := pB.cell 3 _ rfl; have p4 := pB.cell 4 _ rfl
  go_wp2_with fail
  refine (uSzN x _ _ _ (by omega) (by omega) (HV2.out.grow (by repeat (first | with_reducible exact Ext.refl _ _ | with_reducible refine Ext.trans ?_ (by assumption) | with_reducible refine Ext.drew ?_ | with_reducible refine Ext.drewN ?_ _ | with_reducible refine Ext.alloc ?_ _ | with_reducible refine Ext.setNew ?_ (by simp; done) _ | with_reducible refine Ext.setNew ?_ (by simp; omega) _)))).mono ?_
  rintro e w3 ⟨rfl, hg3⟩
  simp only [Hs2.out]
  have z3 := hg3.size
  try simp only [World.size_alloc] at z3
  clear p0 p1 p2 p3 p4 pB
  go_wp2_with fail
  refine Eng.setRgn11 n p x C0.out C1.out C2.out (by kernel_rfl) (by kernel_rfl) (by kernel_rfl) (by kernel_rfl) rfl rfl rfl rfl rfl (HB0.out.grow (w' := w3) (by repeat (first | with_reducible exact Ext.refl _ _ | with_reducible refine Ext.trans ?_ (by assumption) | with_reducible refine Ext.drew ?_ | with_reducible refine Ext.drewN ?_ _ | with_reducible refine Ext.alloc ?_ _ | with_reducible refine Ext.setNew ?_ (by simp; done) _ | with_reducible refine Ext.setNew ?_ (by simp; omega) _))) (HB2.out.grow (w' := w3) (by repeat (first | with_reducible exact Ext.refl _ _ | with_reducible refine Ext.trans ?_ (by assumption) | with_reducible refine Ext.drew ?_ | with_reducible refine Ext.drewN ?_ _ | with_reducible refine Ext.alloc ?_ _ | with_reducible refine Ext.setNew ?_ (by simp; done) _ | with_reducible refine Ext.setNew ?_ (by simp; omega) _))) (HV1.out.grow (by repeat (first | with_reducible exact Ext.refl _ _ | with_reducible refine Ext.trans ?_ (by assumption) | with_reducible refine Ext.drew ?_ | with_reducible refine Ext.drewN ?_ _ | with_reducible refine Ext.alloc ?_ _ | with_reducible refine Ext.setNew ?_ (by simp; done) _ | with_reducible refine Ext.setNew ?_ (by simp; omega) _))) (HV0.out.grow (by repeat (first | with_reducible exact Ext.refl _ _ | with_reducible refine Ext.trans ?_ (by assumption) | with_reducible refine Ext.drew ?_ | with_reducible refine Ext.drewN ?_ _ | with_reducible refine Ext.alloc ?_ _ | with_reducible refine Ext.setNew ?_ (by simp; done) _ | with_reducible refine Ext.setNew ?_ (by simp; omega) _))) (HV2.out.grow (by repeat (first | with_reducible exact Ext.refl _ _ | with_reducible refine Ext.trans ?_ (by assumption) | with_reducible refine Ext.drew ?_ | with_reducible refine Ext.drewN ?_ _ | with_reducible refine Ext.alloc ?_ _ | with_reducible refine Ext.setNew ?_ (by simp; done) _ | with_reducible refine Ext.setNew ?_ (by simp; omega) _))) ?_
  intro w4 f gs xs hg4 f8 f9 hBs hR
  have z4 := hg4.size
  have RW := Lib.hid hR.under
  obtain ⟨nas, ncs, kas, kcs, he⟩ := openV_node hR
  unfold nodeV at he
  have hxs : xs = _ := congrArg Array.toList (Value.agg.inj he)
  subst hxs
  clear hR he
  have gl := hBs.lt
  have HBs := Lib.hid hBs
  clear hBs
  simp only [Eng.laidOver, List.foldl_cons, List.foldl_nil]
  rw [f8, f9]
  have ys : w4.heap.size ≤ w4.heap.size := Nat.le_refl _
  have hpB := HB0.out.grow (w' := w4) (by repeat (first | with_reducible exact Ext.refl _ _ | with_reducible refine Ext.trans ?_ (by assumption) | with_reducible refine Ext.drew ?_ | with_reducible refine Ext.drewN ?_ _ | with_reducible refine Ext.alloc ?_ _ | with_reducible refine Ext.setNew ?_ (by simp; done) _ | with_reducible refine Ext.setNew ?_ (by simp; omega) _))
  have p0 := hpB.cell 0 _ rfl; have p1 := hpB.cell 1 _ rfl; have p2 := hpB.cell 2 _ rfl; have p3 := hpB.cell 3 _ rfl; have p4 := hpB.cell 4 _ rfl; have pz := hpB.lt
  go_wp2_with fail
  refine (uToN n _ _ C0.out (HV0.out.grow (by repeat (first | with_reducible exact Ext.refl _ _ | with_reducible refine Ext.trans ?_ (by assumption) | with_reducible refine Ext.drew ?_ | with_reducible refine Ext.drewN ?_ _ | with_reducible refine Ext.alloc ?_ _ | with_reducible refine Ext.setNew ?_ (by simp; done) _ | with_reducible refine Ext.setNew ?_ (by simp; omega) _)))).mono ?_
  rintro e w5 ⟨y0, f0, rfl, hg5, hF, hfr⟩
  have z5 := hg5.size
  try simp only [World.size_alloc] at z5
  try simp only [World.size_alloc] at hfr
  have F0 := Lib.hid hF
  have S0 := Lib.hid (Seg.of hfr)
  obtain ⟨nax0, ncx0, kax0, kcx0, rfl⟩ := openV_node hF.rv
  unfold nodeV at *
  clear hF hfr p0 p1 p2 p3 p4 hpB pz
  have HBx0 := Lib.hid (BoxN.new w5 [.int .i64 n.kind, .int .i64 n.num, .string n.text, .slice nax0 n.names.length ncx0, .slice kax0 n.kids.length kcx0] 26)
  go_wp2_with fail
  refine (uToS p _ _ C1.out (HV1.out.grow (by repeat (first | with_reducible exact Ext.refl _ _ | with_reducible refine Ext.trans ?_ (by assumption) | with_reducible refine Ext.drew ?_ | with_reducible refine Ext.drewN ?_ _ | with_reducible refine Ext.alloc ?_ _ | with_reducible refine Ext.setNew ?_ (by simp; done) _ | with_reducible refine Ext.setNew ?_ (by simp; omega) _)))).mono ?_
  rintro e w6 ⟨y1, f1, rfl, hg6, hF, hfr⟩
  have z6 := hg6.size
  try simp only [World.size_alloc] at z6
  try simp only [World.size_alloc] at hfr
  have F1 := Lib.hid hF
  have S1 := Lib.hid (Seg.of hfr)
  clear hF hfr
  have hpB := HB2.out.grow (w' := w6) (by repeat (first | with_reducible exact Ext.refl _ _ | with_reducible refine Ext.trans ?_ (by assumption) | with_reducible refine Ext.drew ?_ | with_reducible refine Ext.drewN ?_ _ | with_reducible refine Ext.alloc ?_ _ | with_reducible refine Ext.setNew ?_ (by simp; done) _ | with_reducible refine Ext.setNew ?_ (by simp; omega) _))
  have p0 := hpB.cell 0 _ rfl; have p1 := hpB.cell 1 _ rfl; have p2 := hpB.cell 2 _ rfl; have p3 := hpB.cell 3 _ rfl; have p4 := hpB.cell 4 _ rfl; have pz := hpB.lt
  go_wp2_with fail
  refine (uToN x _ _ C2.out (HV2.out.grow (by repeat (first | with_reducible exact Ext.refl _ _ | with_reducible refine Ext.trans ?_ (by assumption) | with_reducible refine Ext.drew ?_ | with_reducible refine Ext.drewN ?_ _ | with_reducible refine Ext.alloc ?_ _ | with_reducible refine Ext.setNew ?_ (by simp; done) _ | with_reducible refine Ext.setNew ?_ (by simp; omega) _)))).mono ?_
  rintro e w7 ⟨y2, f2, rfl, hg7, hF, hfr⟩
  have z7 := hg7.size
  try simp only [World.size_alloc] at z7
  try simp only [World.size_alloc] at hfr
  have F2 := Lib.hid hF
  have S2 := Lib.hid (Seg.of hfr)
  obtain ⟨nax2, ncx2, kax2, kcx2, rfl⟩ := openV_node hF.rv
  unfold nodeV at *
  clear hF hfr p0 p1 p2 p3 p4 hpB pz
  have HBx2 := Lib.hid (BoxN.new w7 [.int .i64 x.kind, .int .i64 x.num, .string x.text, .slice nax2 x.names.length ncx2, .slice kax2 x.kids.length kcx2] 26)
  have pB0 := HBx0.out.grow (w' := w7) (by repeat (first | with_reducible exact Ext.refl _ _ | with_reducible refine Ext.trans ?_ (by assumption) | with_reducible refine Ext.drew ?_ | with_reducible refine Ext.drewN ?_ _ | with_reducible refine Ext.alloc ?_ _ | with_reducible refine Ext.setNew ?_ (by simp; done) _ | with_reducible refine Ext.setNew ?_ (by simp; omega) _))
  have p0 := pB0.cell 0 _ rfl; have p1 := pB0.cell 1 _ rfl; have p2 := pB0.cell 2 _ rfl; have p3 := pB0.cell 3 _ rfl; have p4 := pB0.cell 4 _ rfl; have pz := pB0.lt
  go_wp2_with fail
  refine (implSetNode_ok n p x _ _ _ _  (F0.out.rv.grow (by repeat (first | with_reducible exact Ext.refl _ _ | with_reducible refine Ext.trans ?_ (by assumption) | with_reducible refine Ext.drew ?_ | with_reducible refine Ext.drewN ?_ _ | with_reducible refine Ext.alloc ?_ _ | with_reducible refine Ext.setNew ?_ (by simp; done) _ | with_reducible refine Ext.setNew ?_ (by simp; omega) _))) (F1.out.rv.grow (by repeat (first | with_reducible exact Ext.refl _ _ | with_reducible refine Ext.trans ?_ (by assumption) | with_reducible refine Ext.drew ?_ | with_reducible refine Ext.drewN ?_ _ | with_reducible refine Ext.alloc ?_ _ | with_reducible refine Ext.setNew ?_ (by simp; done) _ | with_reducible refine Ext.setNew ?_ (by simp; omega) _))) (F2.out.rv.grow (by repeat (first | with_reducible exact Ext.refl _ _ | with_reducible refine Ext.trans ?_ (by assumption) | with_reducible refine Ext.drew ?_ | with_reducible refine Ext.drewN ?_ _ | with_reducible refine Ext.alloc ?_ _ | with_reducible refine Ext.setNew ?_ (by simp; done) _ | with_reducible refine Ext.setNew ?_ (by simp; omega) _)))).mono ?_
  rintro e w8 ⟨rg, fg, rfl, hg8, hF, hfr⟩
  have z8 := hg8.size
  try simp only [World.size_alloc] at z8
  try simp only [World.size_alloc] at hfr
  have FG := Lib.hid hF
  have SG := Lib.hid (Seg.of hfr)
  obtain ⟨nag, ncg, kag, kcg, rfl⟩ := openV_node hF.rv
  unfold nodeV at *
  have HBg := Lib.hid (BoxN.new w8 [.int .i64 (setN n p x).kind, .int .i64 (setN n p x).num, .string (setN n p x).text, .slice nag (setN n p x).names.length ncg, .slice kag (setN n p x).kids.length kcg] 26)
  clear hF hfr
  clear p0 p1 p2 p3 p4 pB0 pz
  have tB := HBs.out.grow (w' := w8) (by repeat (first | with_reducible exact Ext.refl _ _ | with_reducible refine Ext.trans ?_ (by assumption) | with_reducible refine Ext.drew ?_ | with_reducible refine Ext.drewN ?_ _ | with_reducible refine Ext.alloc ?_ _ | with_reducible refine Ext.setNew ?_ (by simp; done) _ | with_reducible refine Ext.setNew ?_ (by simp; omega) _))
  have t0 := tB.cell 0 _ rfl; have t1 := tB.cell 1 _ rfl; have t2 := tB.cell 2 _ rfl; have t3 := tB.cell 3 _ rfl; have t4 := tB.cell 4 _ rfl; have tz := tB.lt
  go_wp2_with fail
  refine (uEqN ((setN n p x)) _ _ _ (FG.out.rv.grow (by repeat (first | with_reducible exact Ext.refl _ _ | with_reducible refine Ext.trans ?_ (by assumption) | with_reducible refine Ext.drew ?_ | with_reducible refine Ext.drewN ?_ _ | with_reducible refine Ext.alloc ?_ _ | with_reducible refine Ext.setNew ?_ (by simp; done) _ | with_reducible refine Ext.setNew ?_ (by simp; omega) _))) (RW.out.any.grow (by repeat (first | with_reducible exact Ext.refl _ _ | with_reducible refine Ext.trans ?_ (by assumption) | with_reducible refine Ext.drew ?_ | with_reducible refine Ext.drewN ?_ _ | with_reducible refine Ext.alloc ?_ _ | with_reducible refine Ext.setNew ?_ (by simp; done) _ | with_reducible refine Ext.setNew ?_ (by simp; omega) _)))).mono ?_
  rintro e w9 ⟨rfl, hg9⟩
  have z9 := hg9.size
  try simp only [World.size_alloc] at z9
  clear t0 t1 t2 t3 t4 tB tz
  go_wp2_with fail
  have pB := HBx0.out.grow (w' := w9) (by repeat (first | with_reducible exact Ext.refl _ _ | with_reducible refine Ext.trans ?_ (by assumption) | with_reducible refine Ext.drew ?_ | with_reducible refine Ext.drewN ?_ _ | with_reducible refine Ext.alloc ?_ _ | with_reducible refine Ext.setNew ?_ (by simp; done) _ | with_reducible refine Ext.setNew ?_ (by simp; omega) _))
  have p0 := pB.cell 0 _ rfl; have p1 := pB.cell 1 _ rfl; have p2 := pB.cell 2 _ rfl; have p3 := pB.cell 3 _ rfl; have p4 := pB.cell 4 _ rfl
  have qB := HB0.out.grow (w' := w9) (by repeat (first | with_reducible exact Ext.refl _ _ | with_reducible refine Ext.trans ?_ (by assumption) | with_reducible refine Ext.drew ?_ | with_reducible refine Ext.drewN ?_ _ | with_reducible refine Ext.alloc ?_ _ | with_reducible refine Ext.setNew ?_ (by simp; done) _ | with_reducible refine Ext.setNew ?_ (by simp; omega) _))
  have q0 := qB.cell 0 _ rfl; have q1 := qB.cell 1 _ rfl; have q2 := qB.cell 2 _ rfl; have q3 := qB.cell 3 _ rfl; have q4 := qB.cell 4 _ rfl
  refine wp_region_stab Grow (fun i => if i = 2 then some (fun v w' => RV nodeRep packA w' any n v) else if i = 3 then some (fun v _ => v = .bool true) else none) (by kernel_rfl) (by kernel_rfl) ⟨Ext.refl nil, fun _ _ h1 h2 => h2.trans h1, ?_⟩ ?_
  · intro i V hV v w1 w2 hr hv
    by_cases h1 : i = 2
    · simp only [h1, if_true, Option.some.injEq] at hV; subst hV; exact RV.grow hv hr
    · by_cases h3 : i = 3
      · simp [h3] at hV; subst hV; exact hv
      · simp [h1, h3] at hV
  (refine wpStab_quiet (by kernel_rfl) (by kernel_rfl) (by simp) ?_; intro K hK; go_big_quiet_op; go_big_quiet_on)
  (refine wpStab_quiet (by kernel_rfl) (by kernel_rfl) (by simp) ?_; intro K hK; go_big_quiet_op; go_big_quiet_on)
  refine wpStab_made (fun v w' => RV nodeRep packA w' any n v) ?_ ?_ ?_ ?_
  · go_simp
  · simp
  · intro y _
    refine stabAt_call (f := 23) (args := #[.agg #[.int .i64 n.kind, .int .i64 n.num, .string n.text, .slice na0 n.names.length nc0, .slice ka0 n.kids.length kc0]]) ?_ ?_
    · go_simp
    · refine (uToN n _ _ C0.out (HV0.out.grow (((by repeat (first | with_reducible exact Ext.refl _ _ | with_reducible refine Ext.trans ?_ (by assumption) | with_reducible refine Ext.drew ?_ | with_reducible refine Ext.drewN ?_ _ | with_reducible refine Ext.alloc ?_ _ | with_reducible refine Ext.setNew ?_ (by simp; done) _ | with_reducible refine Ext.setNew ?_ (by simp; omega) _)) : Grow w w9).trans (later_grow _ _)))).mono ?_
      rintro e w' ⟨v', fp, rfl, hg, hF, _⟩
      exact ⟨_, rfl, hg, hF.rv⟩
  intro vt
  go_frame
  refine wpStab_const (.bool true) ?_ ?_ ?_ ?_
  · go_simp
  · simp
  · intro y hE
    have Hr6 : RV nodeRep packA (later w9 y) any n vt := (hE ⟨2, .data⟩ (by simp) (by decide)).2 rfl
    clear hE
    refine stabAt_call (f := 26) (args := #[.agg #[.int .i64 n.kind, .int .i64 n.num, .string n.text, .slice nax0 n.names.length ncx0, .slice kax0 n.kids.length kcx0], vt]) ?_ ?_
    · go_simp
    · refine (uEqN n _ _ _ (F0.out.rv.grow (((by repeat (first | with_reducible exact Ext.refl _ _ | with_reducible refine Ext.trans ?_ (by assumption) | with_reducible refine Ext.drew ?_ | with_reducible refine Ext.drewN ?_ _ | with_reducible refine Ext.alloc ?_ _ | with_reducible refine Ext.setNew ?_ (by simp; done) _ | with_reducible refine Ext.setNew ?_ (by simp; omega) _)) : Grow _ w9).trans (later_grow _ _))) Hr6).mono ?_
      rintro e w' ⟨rfl, hg⟩
      exact ⟨_, rfl, hg, rfl⟩
  go_frame
  (refine wpStab_quiet (by kernel_rfl) (by kernel_rfl) (by simp) ?_; intro K hK; go_big_quiet_op; go_big_quiet_on)
  refine wpStab_end ?_
  intro w10 hg10
  clear p0 p1 p2 p3 p4 pB q0 q1 q2 q3 q4 qB
  have z10 := hg10.size
  go_wp2_with fail
  refine (uToS p _ _ C1.out (HV1.out.grow (by repeat (first | with_reducible exact Ext.refl _ _ | with_reducible refine Ext.trans ?_ (by assumption) | with_reducible refine Ext.drew ?_ | with_reducible refine Ext.drewN ?_ _ | with_reducible refine Ext.alloc ?_ _ | with_reducible refine Ext.setNew ?_ (by simp; done) _ | with_reducible refine Ext.setNew ?_ (by simp; omega) _)))).mono ?_
  rintro e w11 ⟨ue, fe, rfl, hg11, hF, hfr⟩
  have z11 := hg11.size
  try simp only [World.size_alloc] at z11
  have RE := Lib.hid hF.rv
  clear hF hfr
  go_wp2_with fail
  refine (uEqS p _ _ _ (F1.out.rv.grow (by repeat (first | with_reducible exact Ext.refl _ _ | with_reducible refine Ext.trans ?_ (by assumption) | with_reducible refine Ext.drew ?_ | with_reducible refine Ext.drewN ?_ _ | with_reducible refine Ext.alloc ?_ _ | with_reducible refine Ext.setNew ?_ (by simp; done) _ | with_reducible refine Ext.setNew ?_ (by simp; omega) _))) RE.out).mono ?_
  rintro e w12 ⟨rfl, hg12⟩
  have z12 := hg12.size
  try simp only [World.size_alloc] at z12
  clear RE
  go_wp2_with fail
  have pB := HBx2.out.grow (w' := w12) (by repeat (first | with_reducible exact Ext.refl _ _ | with_reducible refine Ext.trans ?_ (by assumption) | with_reducible refine Ext.drew ?_ | with_reducible refine Ext.drewN ?_ _ | with_reducible refine Ext.alloc ?_ _ | with_reducible refine Ext.setNew ?_ (by simp; done) _ | with_reducible refine Ext.setNew ?_ (by simp; omega) _))
  have p0 := pB.cell 0 _ rfl; have p1 := pB.cell 1 _ rfl; have p2 := pB.cell 2 _ rfl; have p3 := pB.cell 3 _ rfl; have p4 := pB.cell 4 _ rfl
  have qB := HB2.out.grow (w' := w12) (by repeat (first | with_reducible exact Ext.refl _ _ | with_reducible refine Ext.trans ?_ (by assumption) | with_reducible refine Ext.drew ?_ | with_reducible refine Ext.drewN ?_ _ | with_reducible refine Ext.alloc ?_ _ | with_reducible refine Ext.setNew ?_ (by simp; done) _ | with_reducible refine Ext.setNew ?_ (by simp; omega) _))
  have q0 := qB.cell 0 _ rfl; have q1 := qB.cell 1 _ rfl; have q2 := qB.cell 2 _ rfl; have q3 := qB.cell 3 _ rfl; have q4 := qB.cell 4 _ rfl
  refine wp_region_stab Grow (fun i => if i = 2 then some (fun v w' => RV nodeRep packA w' any x v) else if i = 3 then some (fun v _ => v = .bool true) else none) (by kernel_rfl) (by kernel_rfl) ⟨Ext.refl nil, fun _ _ h1 h2 => h2.trans h1, ?_⟩ ?_
  · intro i V hV v w1 w2 hr hv
    by_cases h1 : i = 2
    · simp only [h1, if_true, Option.some.injEq] at hV; subst hV; exact RV.grow hv hr
    · by_cases h3 : i = 3
      · simp [h3] at hV; subst hV; exact hv
      · simp [h1, h3] at hV
  (refine wpStab_quiet (by kernel_rfl) (by kernel_rfl) (by simp) ?_; intro K hK; go_big_quiet_op; go_big_quiet_on)
  (refine wpStab_quiet (by kernel_rfl) (by kernel_rfl) (by simp) ?_; intro K hK; go_big_quiet_op; go_big_quiet_on)
  refine wpStab_made (fun v w' => RV nodeRep packA w' any x v) ?_ ?_ ?_ ?_
  · go_simp
  · simp
  · intro y _
    refine stabAt_call (f := 23) (args := #[.agg #[.int .i64 x.kind, .int .i64 x.num, .string x.text, .slice na2 x.names.length nc2, .slice ka2 x.kids.length kc2]]) ?_ ?_
    · go_simp
    · refine (uToN x _ _ C2.out (HV2.out.grow (((by repeat (first | with_reducible exact Ext.refl _ _ | with_reducible refine Ext.trans ?_ (by assumption) | with_reducible refine Ext.drew ?_ | with_reducible refine Ext.drewN ?_ _ | with_reducible refine Ext.alloc ?_ _ | with_reducible refine Ext.setNew ?_ (by simp; done) _ | with_reducible refine Ext.setNew ?_ (by simp; omega) _)) : Grow w w12).trans (later_grow _ _)))).mono ?_
      rintro e w' ⟨v', fp, rfl, hg, hF, _⟩
      exact ⟨_, rfl, hg, hF.rv⟩
  intro vt
  go_frame
  refine wpStab_const (.bool true) ?_ ?_ ?_ ?_
  · go_simp
  · simp
  · intro y hE
    have Hr6 : RV nodeRep packA (later w12 y) any x vt := (hE ⟨2, .data⟩ (by simp) (by decide)).2 rfl
    clear hE
    refine stabAt_call (f := 26) (args := #[.agg #[.int .i64 x.kind, .int .i64 x.num, .string x.text, .slice nax2 x.names.length ncx2, .slice kax2 x.kids.length kcx2], vt]) ?_ ?_
    · go_simp
    · refine (uEqN x _ _ _ (F2.out.rv.grow (((by repeat (first | with_reducible exact Ext.refl _ _ | with_reducible refine Ext.trans ?_ (by assumption) | with_reducible refine Ext.drew ?_ | with_reducible refine Ext.drewN ?_ _ | with_reducible refine Ext.alloc ?_ _ | with_reducible refine Ext.setNew ?_ (by simp; done) _ | with_reducible refine Ext.setNew ?_ (by simp; omega) _)) : Grow _ w12).trans (later_grow _ _))) Hr6).mono ?_
      rintro e w' ⟨rfl, hg⟩
      exact ⟨_, rfl, hg, rfl⟩
  go_frame
  (refine wpStab_quiet (by kernel_rfl) (by kernel_rfl) (by simp) ?_; intro K hK; go_big_quiet_op; go_big_quiet_on)
  refine wpStab_end ?_
  intro w13 hg13
  clear p0 p1 p2 p3 p4 pB q0 q1 q2 q3 q4 qB
  have z13 := hg13.size
  replace F0 := Lib.hid (F0.out.grow S0.out (w' := w13) (by repeat (first | with_reducible exact Ext.refl _ _ | with_reducible refine Ext.trans ?_ (by assumption) | with_reducible refine Ext.drew ?_ | with_reducible refine Ext.drewN ?_ _ | with_reducible refine Ext.alloc ?_ _ | with_reducible refine Ext.setNew ?_ (by simp; done) _ | with_reducible refine Ext.setNew ?_ (by simp; omega) _)))
  replace S0 := Lib.hid (S0.out.grow (w' := w13) (by repeat (first | with_reducible exact Ext.refl _ _ | with_reducible refine Ext.trans ?_ (by assumption) | with_reducible refine Ext.drew ?_ | with_reducible refine Ext.drewN ?_ _ | with_reducible refine Ext.alloc ?_ _ | with_reducible refine Ext.setNew ?_ (by simp; done) _ | with_reducible refine Ext.setNew ?_ (by simp; omega) _)))
  replace F1 := Lib.hid (F1.out.grow S1.out (w' := w13) (by repeat (first | with_reducible exact Ext.refl _ _ | with_reducible refine Ext.trans ?_ (by assumption) | with_reducible refine Ext.drew ?_ | with_reducible refine Ext.drewN ?_ _ | with_reducible refine Ext.alloc ?_ _ | with_reducible refine Ext.setNew ?_ (by simp; done) _ | with_reducible refine Ext.setNew ?_ (by simp; omega) _)))
  replace S1 := Lib.hid (S1.out.grow (w' := w13) (by repeat (first | with_reducible exact Ext.refl _ _ | with_reducible refine Ext.trans ?_ (by assumption) | with_reducible refine Ext.drew ?_ | with_reducible refine Ext.drewN ?_ _ | with_reducible refine Ext.alloc ?_ _ | with_reducible refine Ext.setNew ?_ (by simp; done) _ | with_reducible refine Ext.setNew ?_ (by simp; omega) _)))
  replace F2 := Lib.hid (F2.out.grow S2.out (w' := w13) (by repeat (first | with_reducible exact Ext.refl _ _ | with_reducible refine Ext.trans ?_ (by assumption) | with_reducible refine Ext.drew ?_ | with_reducible refine Ext.drewN ?_ _ | with_reducible refine Ext.alloc ?_ _ | with_reducible refine Ext.setNew ?_ (by simp; done) _ | with_reducible refine Ext.setNew ?_ (by simp; omega) _)))
  replace S2 := Lib.hid (S2.out.grow (w' := w13) (by repeat (first | with_reducible exact Ext.refl _ _ | with_reducible refine Ext.trans ?_ (by assumption) | with_reducible refine Ext.drew ?_ | with_reducible refine Ext.drewN ?_ _ | with_reducible refine Ext.alloc ?_ _ | with_reducible refine Ext.setNew ?_ (by simp; done) _ | with_reducible refine Ext.setNew ?_ (by simp; omega) _)))
  replace FG := Lib.hid (FG.out.grow SG.out (w' := w13) (by repeat (first | with_reducible exact Ext.refl _ _ | with_reducible refine Ext.trans ?_ (by assumption) | with_reducible refine Ext.drew ?_ | with_reducible refine Ext.drewN ?_ _ | with_reducible refine Ext.alloc ?_ _ | with_reducible refine Ext.setNew ?_ (by simp; done) _ | with_reducible refine Ext.setNew ?_ (by simp; omega) _)))
  replace SG := Lib.hid (SG.out.grow (w' := w13) (by repeat (first | with_reducible exact Ext.refl _ _ | with_reducible refine Ext.trans ?_ (by assumption) | with_reducible refine Ext.drew ?_ | with_reducible refine Ext.drewN ?_ _ | with_reducible refine Ext.alloc ?_ _ | with_reducible refine Ext.setNew ?_ (by simp; done) _ | with_reducible refine Ext.setNew ?_ (by simp; omega) _)))
  replace RW := Lib.hid (RW.out.grow (w' := w13) (by repeat (first | with_reducible exact Ext.refl _ _ | with_reducible refine Ext.trans ?_ (by assumption) | with_reducible refine Ext.drew ?_ | with_reducible refine Ext.drewN ?_ _ | with_reducible refine Ext.alloc ?_ _ | with_reducible refine Ext.setNew ?_ (by simp; done) _ | with_reducible refine Ext.setNew ?_ (by simp; omega) _)))
  replace HB0 := Lib.hid (HB0.out.grow (w' := w13) (by repeat (first | with_reducible exact Ext.refl _ _ | with_reducible refine Ext.trans ?_ (by assumption) | with_reducible refine Ext.drew ?_ | with_reducible refine Ext.drewN ?_ _ | with_reducible refine Ext.alloc ?_ _ | with_reducible refine Ext.setNew ?_ (by simp; done) _ | with_reducible refine Ext.setNew ?_ (by simp; omega) _)))
  replace HB2 := Lib.hid (HB2.out.grow (w' := w13) (by repeat (first | with_reducible exact Ext.refl _ _ | with_reducible refine Ext.trans ?_ (by assumption) | with_reducible refine Ext.drew ?_ | with_reducible refine Ext.drewN ?_ _ | with_reducible refine Ext.alloc ?_ _ | with_reducible refine Ext.setNew ?_ (by simp; done) _ | with_reducible refine Ext.setNew ?_ (by simp; omega) _)))
  replace HBx0 := Lib.hid (HBx0.out.grow (w' := w13) (by repeat (first | with_reducible exact Ext.refl _ _ | with_reducible refine Ext.trans ?_ (by assumption) | with_reducible refine Ext.drew ?_ | with_reducible refine Ext.drewN ?_ _ | with_reducible refine Ext.alloc ?_ _ | with_reducible refine Ext.setNew ?_ (by simp; done) _ | with_reducible refine Ext.setNew ?_ (by simp; omega) _)))
  replace HBx2 := Lib.hid (HBx2.out.grow (w' := w13) (by repeat (first | with_reducible exact Ext.refl _ _ | with_reducible refine Ext.trans ?_ (by assumption) | with_reducible refine Ext.drew ?_ | with_reducible refine Ext.drewN ?_ _ | with_reducible refine Ext.alloc ?_ _ | with_reducible refine Ext.setNew ?_ (by simp; done) _ | with_reducible refine Ext.setNew ?_ (by simp; omega) _)))
  replace HBs := Lib.hid (HBs.out.grow (w' := w13) (by repeat (first | with_reducible exact Ext.refl _ _ | with_reducible refine Ext.trans ?_ (by assumption) | with_reducible refine Ext.drew ?_ | with_reducible refine Ext.drewN ?_ _ | with_reducible refine Ext.alloc ?_ _ | with_reducible refine Ext.setNew ?_ (by simp; done) _ | with_reducible refine Ext.setNew ?_ (by simp; omega) _)))
  replace HBg := Lib.hid (HBg.out.grow (w' := w13) (by repeat (first | with_reducible exact Ext.refl _ _ | with_reducible refine Ext.trans ?_ (by assumption) | with_reducible refine Ext.drew ?_ | with_reducible refine Ext.drewN ?_ _ | with_reducible refine Ext.alloc ?_ _ | with_reducible refine Ext.setNew ?_ (by simp; done) _ | with_reducible refine Ext.setNew ?_ (by simp; omega) _)))
  have lHB0 := HB0.out.lt
  have lHB2 := HB2.out.lt
  have lHBx0 := HBx0.out.lt
  have lHBx2 := HBx2.out.lt
  have lHBs := HBs.out.lt
  have lHBg := HBg.out.lt
  have hgA : Grow w w13 := (by repeat (first | with_reducible exact Ext.refl _ _ | with_reducible refine Ext.trans ?_ (by assumption) | with_reducible refine Ext.drew ?_ | with_reducible refine Ext.drewN ?_ _ | with_reducible refine Ext.alloc ?_ _ | with_reducible refine Ext.setNew ?_ (by simp; done) _ | with_reducible refine Ext.setNew ?_ (by simp; omega) _))
  clear hg1 hg2 hg3 hg4 hg5 hg6 hg7 hg8 hg9 hg10 hg11 hg12 hg13
  have m0 := cntT_le n
  have m1 := cntS_le p
  have m2 := cntT_le x
  have mg := setN_cnt n p x
  have p0 := HBx0.out.cell 0 _ rfl; have p1 := HBx0.out.cell 1 _ rfl; have p2 := HBx0.out.cell 2 _ rfl; have p3 := HBx0.out.cell 3 _ rfl; have p4 := HBx0.out.cell 4 _ rfl
  go_wp2_with fail
  refine (uMarkN n _ f0 _ (1) _ _ (by rfl) F0.out S0.out.1 (by omega) (by omega)).mono ?_
  rintro e w14 ⟨rfl, hx, _, _⟩
  clear p0 p1 p2 p3 p4
  replace F1 := Lib.hid (F1.out.keep (S1.out.keeps S0.out (by omega) hx))
  replace S1 := Lib.hid (S1.out.ext S0.out (by omega) hx)
  replace F2 := Lib.hid (F2.out.keep (S2.out.keeps S0.out (by omega) hx))
  replace S2 := Lib.hid (S2.out.ext S0.out (by omega) hx)
  replace FG := Lib.hid (FG.out.keep (SG.out.keeps S0.out (by omega) hx))
  replace SG := Lib.hid (SG.out.ext S0.out (by omega) hx)
  replace HB0 := Lib.hid (S0.out.box HB0.out hx (by omega))
  replace HB2 := Lib.hid (S0.out.box HB2.out hx (by omega))
  replace HBx0 := Lib.hid (S0.out.box HBx0.out hx (by omega))
  replace HBx2 := Lib.hid (S0.out.box HBx2.out hx (by omega))
  replace HBs := Lib.hid (S0.out.box HBs.out hx (by omega))
  replace HBg := Lib.hid (S0.out.box HBg.out hx (by omega))
  replace RW := Lib.hid (S0.out.rv RW.out hx (by omega))
  replace hgA := S0.out.inner hgA hx (by omega)
  clear hx F0
  go_wp2_with fail
  refine (uMarkS p _ f1 _ (1 + cntT n) _ _ (by simp) F1.out S1.out.1 (by omega) (by omega)).mono ?_
  rintro e w15 ⟨rfl, hx, _, _⟩
  replace F2 := Lib.hid (F2.out.keep (S2.out.keeps S1.out (by omega) hx))
  replace S2 := Lib.hid (S2.out.ext S1.out (by omega) hx)
  replace FG := Lib.hid (FG.out.keep (SG.out.keeps S1.out (by omega) hx))
  replace SG := Lib.hid (SG.out.ext S1.out (by omega) hx)
  replace HB0 := Lib.hid (S1.out.box HB0.out hx (by omega))
  replace HB2 := Lib.hid (S1.out.box HB2.out hx (by omega))
  replace HBx0 := Lib.hid (S1.out.box HBx0.out hx (by omega))
  replace HBx2 := Lib.hid (S1.out.box HBx2.out hx (by omega))
  replace HBs := Lib.hid (S1.out.box HBs.out hx (by omega))
  replace HBg := Lib.hid (S1.out.box HBg.out hx (by omega))
  replace RW := Lib.hid (S1.out.rv RW.out hx (by omega))
  replace hgA := S1.out.inner hgA hx (by omega)
  clear hx F1
  have p0 := HBx2.out.cell 0 _ rfl; have p1 := HBx2.out.cell 1 _ rfl; have p2 := HBx2.out.cell 2 _ rfl; have p3 := HBx2.out.cell 3 _ rfl; have p4 := HBx2.out.cell 4 _ rfl
  go_wp2_with fail
  refine (uMarkN x _ f2 _ (1 + cntT n + cntS p) _ _ (by simp) F2.out S2.out.1 (by omega) (by omega)).mono ?_
  rintro e w16 ⟨rfl, hx, _, _⟩
  clear p0 p1 p2 p3 p4
  replace FG := Lib.hid (FG.out.keep (SG.out.keeps S2.out (by omega) hx))
  replace SG := Lib.hid (SG.out.ext S2.out (by omega) hx)
  replace HB0 := Lib.hid (S2.out.box HB0.out hx (by omega))
  replace HB2 := Lib.hid (S2.out.box HB2.out hx (by omega))
  replace HBx0 := Lib.hid (S2.out.box HBx0.out hx (by omega))
  replace HBx2 := Lib.hid (S2.out.box HBx2.out hx (by omega))
  replace HBs := Lib.hid (S2.out.box HBs.out hx (by omega))
  replace HBg := Lib.hid (S2.out.box HBg.out hx (by omega))
  replace RW := Lib.hid (S2.out.rv RW.out hx (by omega))
  replace hgA := S2.out.inner hgA hx (by omega)
  clear hx F2
  have r0 := HBg.out.cell 0 _ rfl; have r1 := HBg.out.cell 1 _ rfl; have r2 := HBg.out.cell 2 _ rfl; have r3 := HBg.out.cell 3 _ rfl; have r4 := HBg.out.cell 4 _ rfl
  have t0 := HBs.out.cell 0 _ rfl; have t1 := HBs.out.cell 1 _ rfl; have t2 := HBs.out.cell 2 _ rfl; have t3 := HBs.out.cell 3 _ rfl; have t4 := HBs.out.cell 4 _ rfl
  go_wp2_with fail
  refine (uEqN ((setN n p x)) _ _ _ FG.out.rv RW.out.any).mono ?_
  rintro e w17 ⟨rfl, hg⟩
  clear r0 r1 r2 r3 r4 t0 t1 t2 t3 t4
  replace FG := Lib.hid (FG.out.grow SG.out hg)
  replace SG := Lib.hid (SG.out.grow hg)
  replace RW := Lib.hid (RW.out.grow hg)
  replace HB0 := Lib.hid (HB0.out.grow hg)
  replace HB2 := Lib.hid (HB2.out.grow hg)
  replace HBx0 := Lib.hid (HBx0.out.grow hg)
  replace HBx2 := Lib.hid (HBx2.out.grow hg)
  replace HBs := Lib.hid (HBs.out.grow hg)
  replace HBg := Lib.hid (HBg.out.grow hg)
  replace hgA := hgA.trans hg
  clear hg
  have r0 := HBg.out.cell 0 _ rfl; have r1 := HBg.out.cell 1 _ rfl; have r2 := HBg.out.cell 2 _ rfl; have r3 := HBg.out.cell 3 _ rfl; have r4 := HBg.out.cell 4 _ rfl
  go_wp2_with fail
  refine (uMarkN ((setN n p x)) _ fg _ 1 _ _ (by rfl) FG.out SG.out.1 (by omega) (by omega)).mono ?_
  rintro e w18 ⟨rfl, hx, hfr, hF⟩
  clear r0 r1 r2 r3 r4
  replace HB0 := Lib.hid (SG.out.box HB0.out hx (by omega))
  replace HB2 := Lib.hid (SG.out.box HB2.out hx (by omega))
  replace HBx0 := Lib.hid (SG.out.box HBx0.out hx (by omega))
  replace HBx2 := Lib.hid (SG.out.box HBx2.out hx (by omega))
  replace HBs := Lib.hid (SG.out.box HBs.out hx (by omega))
  replace HBg := Lib.hid (SG.out.box HBg.out hx (by omega))
  replace RW := Lib.hid (SG.out.rv RW.out hx (by omega))
  replace hgA := SG.out.inner hgA hx (by omega)
  replace FG := Lib.hid hF
  replace SG := Lib.hid (SG.out.marked hfr)
  clear hx hfr hF
  have r0 := HBg.out.cell 0 _ rfl; have r1 := HBg.out.cell 1 _ rfl; have r2 := HBg.out.cell 2 _ rfl; have r3 := HBg.out.cell 3 _ rfl; have r4 := HBg.out.cell 4 _ rfl
  go_wp2_with fail
  refine (uHeldN ((setN n p x)) _ 1 _ _ (by rfl) FG.out.rv (by omega) (by omega)).mono ?_
  rintro e w19 ⟨rfl, hg⟩
  clear r0 r1 r2 r3 r4
  replace FG := Lib.hid (FG.out.grow SG.out hg)
  replace SG := Lib.hid (SG.out.grow hg)
  replace RW := Lib.hid (RW.out.grow hg)
  replace HB0 := Lib.hid (HB0.out.grow hg)
  replace HB2 := Lib.hid (HB2.out.grow hg)
  replace HBx0 := Lib.hid (HBx0.out.grow hg)
  replace HBx2 := Lib.hid (HBx2.out.grow hg)
  replace HBs := Lib.hid (HBs.out.grow hg)
  replace HBg := Lib.hid (HBg.out.grow hg)
  replace hgA := hgA.trans hg
  clear hg
  have hbb : ((1 + cntT ((setN n p x)) : Nat) != (1 + cntT ((setN n p x)) : Nat)) = false := by simp
  have hgc := hgA
  go_wp2_with fail
  refine Eng.setRgn38 n p x C0.out C1.out C2.out (by kernel_rfl) (by kernel_rfl) (by kernel_rfl) (by kernel_rfl) rfl rfl rfl rfl rfl (HB0.out.grow (w' := w19) (by repeat (first | with_reducible exact Ext.refl _ _ | with_reducible refine Ext.trans ?_ (by assumption) | with_reducible refine Ext.drew ?_ | with_reducible refine Ext.drewN ?_ _ | with_reducible refine Ext.alloc ?_ _ | with_reducible refine Ext.setNew ?_ (by simp; done) _ | with_reducible refine Ext.setNew ?_ (by simp; omega) _))) (HB2.out.grow (w' := w19) (by repeat (first | with_reducible exact Ext.refl _ _ | with_reducible refine Ext.trans ?_ (by assumption) | with_reducible refine Ext.drew ?_ | with_reducible refine Ext.drewN ?_ _ | with_reducible refine Ext.alloc ?_ _ | with_reducible refine Ext.setNew ?_ (by simp; done) _ | with_reducible refine Ext.setNew ?_ (by simp; omega) _))) (HV1.out.grow (by repeat (first | with_reducible exact Ext.refl _ _ | with_reducible refine Ext.trans ?_ (by assumption) | with_reducible refine Ext.drew ?_ | with_reducible refine Ext.drewN ?_ _ | with_reducible refine Ext.alloc ?_ _ | with_reducible refine Ext.setNew ?_ (by simp; done) _ | with_reducible refine Ext.setNew ?_ (by simp; omega) _))) (HV0.out.grow (by repeat (first | with_reducible exact Ext.refl _ _ | with_reducible refine Ext.trans ?_ (by assumption) | with_reducible refine Ext.drew ?_ | with_reducible refine Ext.drewN ?_ _ | with_reducible refine Ext.alloc ?_ _ | with_reducible refine Ext.setNew ?_ (by simp; done) _ | with_reducible refine Ext.setNew ?_ (by simp; omega) _))) (HV2.out.grow (by repeat (first | with_reducible exact Ext.refl _ _ | with_reducible refine Ext.trans ?_ (by assumption) | with_reducible refine Ext.drew ?_ | with_reducible refine Ext.drewN ?_ _ | with_reducible refine Ext.alloc ?_ _ | with_reducible refine Ext.setNew ?_ (by simp; done) _ | with_reducible refine Ext.setNew ?_ (by simp; omega) _))) ?_
  intro w20 fh gh xh hg20 fh8 fh9 hBh hR
  have z20 := hg20.size
  have RH := Lib.hid hR
  obtain ⟨nah, nch, kah, kch, he⟩ := openV_node hR
  unfold nodeV at he
  have hxh : xh = _ := congrArg Array.toList (Value.agg.inj he)
  subst hxh
  clear hR he
  have HBh := Lib.hid hBh
  clear hBh
  simp only [Eng.laidOver, List.foldl_cons, List.foldl_nil]
  rw [fh8, fh9]
  have uB := HBh.out.grow (w' := w20) (by repeat (first | with_reducible exact Ext.refl _ _ | with_reducible refine Ext.trans ?_ (by assumption) | with_reducible refine Ext.drew ?_ | with_reducible refine Ext.drewN ?_ _ | with_reducible refine Ext.alloc ?_ _ | with_reducible refine Ext.setNew ?_ (by simp; done) _ | with_reducible refine Ext.setNew ?_ (by simp; omega) _))
  have u0 := uB.cell 0 _ rfl; have u1 := uB.cell 1 _ rfl; have u2 := uB.cell 2 _ rfl; have u3 := uB.cell 3 _ rfl; have u4 := uB.cell 4 _ rfl; have uz := uB.lt
  have tB := HBs.out.grow (w' := w20) (by repeat (first | with_reducible exact Ext.refl _ _ | with_reducible refine Ext.trans ?_ (by assumption) | with_reducible refine Ext.drew ?_ | with_reducible refine Ext.drewN ?_ _ | with_reducible refine Ext.alloc ?_ _ | with_reducible refine Ext.setNew ?_ (by simp; done) _ | with_reducible refine Ext.setNew ?_ (by simp; omega) _))
  have t0 := tB.cell 0 _ rfl; have t1 := tB.cell 1 _ rfl; have t2 := tB.cell 2 _ rfl; have t3 := tB.cell 3 _ rfl; have t4 := tB.cell 4 _ rfl; have tz := tB.lt
  go_wp2_with fail
  refine (uEqN ((setN n p x)) _ _ _ (RH.out.grow (by repeat (first | with_reducible exact Ext.refl _ _ | with_reducible refine Ext.trans ?_ (by assumption) | with_reducible refine Ext.drew ?_ | with_reducible refine Ext.drewN ?_ _ | with_reducible refine Ext.alloc ?_ _ | with_reducible refine Ext.setNew ?_ (by simp; done) _ | with_reducible refine Ext.setNew ?_ (by simp; omega) _))) (RW.out.any.grow (by repeat (first | with_reducible exact Ext.refl _ _ | with_reducible refine Ext.trans ?_ (by assumption) | with_reducible refine Ext.drew ?_ | with_reducible refine Ext.drewN ?_ _ | with_reducible refine Ext.alloc ?_ _ | with_reducible refine Ext.setNew ?_ (by simp; done) _ | with_reducible refine Ext.setNew ?_ (by simp; omega) _)))).mono ?_
  rintro e w21 ⟨rfl, hg21⟩
  have z21 := hg21.size
  try simp only [World.size_alloc] at z21
  clear t0 t1 t2 t3 t4 tB tz
  have rB := HBg.out.grow (w' := w21) (by repeat (first | with_reducible exact Ext.refl _ _ | with_reducible refine Ext.trans ?_ (by assumption) | with_reducible refine Ext.drew ?_ | with_reducible refine Ext.drewN ?_ _ | with_reducible refine Ext.alloc ?_ _ | with_reducible refine Ext.setNew ?_ (by simp; done) _ | with_reducible refine Ext.setNew ?_ (by simp; omega) _))
  have r0 := rB.cell 0 _ rfl; have r1 := rB.cell 1 _ rfl; have r2 := rB.cell 2 _ rfl; have r3 := rB.cell 3 _ rfl; have r4 := rB.cell 4 _ rfl; have rz := rB.lt
  go_wp2_with fail
  refine (uHeldN ((setN n p x)) _ 1 _ _ (by rfl) (FG.out.rv.grow (by repeat (first | with_reducible exact Ext.refl _ _ | with_reducible refine Ext.trans ?_ (by assumption) | with_reducible refine Ext.drew ?_ | with_reducible refine Ext.drewN ?_ _ | with_reducible refine Ext.alloc ?_ _ | with_reducible refine Ext.setNew ?_ (by simp; done) _ | with_reducible refine Ext.setNew ?_ (by simp; omega) _))) (by omega) (by omega)).mono ?_
  rintro e w22 ⟨rfl, hg22⟩
  have z22 := hg22.size
  try simp only [World.size_alloc] at z22
  clear r0 r1 r2 r3 r4 rB rz
  go_wp2_with fail
  go_ret
  exact ⟨by simp, (by repeat (first | with_reducible exact Ext.refl _ _ | with_reducible refine Ext.trans ?_ (by assumption) | with_reducible refine Ext.drew ?_ | with_reducible refine Ext.drewN ?_ _ | with_reducible refine Ext.alloc ?_ _ | with_reducible refine Ext.setNew ?_ (by simp; done) _ | with_reducible refine Ext.setNew ?_ (by simp; omega) _))⟩
theorem lawSet_ok (n : Nd) (p : List ByteArray) (x : Nd) (v0 : Value) (v1 : Value) (v2 : Value) (w : World) (h0 : RV nodeRep packA w any n v0) (h1 : RV strsRep packO w any p v1) (h2 : RV nodeRep packA w any x v2) :
    Calls Tryd.prog 6 #[v0, v1, v2] w fun e w' => e = .returned (.bool true) ∧ Grow w w' := by
  by_cases hc : costN n + costS p + costN x ≤ 1048576
  · exact lawSet_main n p x v0 v1 v2 w h0 h1 h2 hc
  · exact lawSet_big n p x v0 v1 v2 w h0 h1 h2 hc
end Go.Proofs.YtfjaobfaepjfnaaDoor
namespace Go.Proofs.YtfjaobfaepjfnaaDoor
open Go.RowKit
end Go.Proofs.YtfjaobfaepjfnaaDoor
namespace Go.Proofs.YtfjaobfaepjfnaaDoor
open Go.RowKit
end Go.Proofs.YtfjaobfaepjfnaaDoor
namespace Go.Proofs.YtfjaobfaepjfnaaDoor
open Go.RowKit
structure Opn where
  kind : Int
  path : List ByteArray
  frm : List ByteArray
  val : Nd
def opV (o : Opn) (pa : Option Addr) (pc : Nat) (fa : Option Addr) (fc : Nat) (na : Option Addr) (nc : Nat) (ka : Option Addr) (kc : Nat) : Value :=
  .agg #[.int .i64 o.kind, .slice pa o.path.length pc, .slice fa o.frm.length fc, .int .i64 o.val.kind, .int .i64 o.val.num, .string o.val.text, .slice na o.val.names.length nc, .slice ka o.val.kids.length kc]
def OpC (w : World) (S : Nat → Prop) (o : Opn) (pa : Option Addr) (pc : Nat) (fa : Option Addr) (fc : Nat) (na : Option Addr) (nc : Nat) (ka : Option Addr) (kc : Nat) : Prop :=
  StrsR w S pa pc o.path ∧ StrsR w S fa fc o.frm ∧ NodeC w S o.val na nc ka kc
def OpR (w : World) (S : Nat → Prop) (o : Opn) (v : Value) : Prop := ∃ pa pc fa fc na nc ka kc, v = opV o pa pc fa fc na nc ka kc ∧ OpC w S o pa pc fa fc na nc ka kc
def OpsR (w : World) (S : Nat → Prop) (a : Option Addr) (c : Nat) (l : List Opn) : Prop :=
  l.length ≤ c ∧ l.length ≤ big ∧ (l = [] ∨ ∃ b o, a = some ⟨b, o, none⟩ ∧ S b ∧ ∀ i (h : i < l.length), ∃ pa pc fa fc na nc ka kc,
    w.cell? ⟨b, o + i * 8, none⟩ = some (.int .i64 l[i].kind) ∧ w.cell? ⟨b, o + i * 8 + 1, none⟩ = some (.slice pa l[i].path.length pc) ∧ w.cell? ⟨b, o + i * 8 + 2, none⟩ = some (.slice fa l[i].frm.length fc) ∧
    w.cell? ⟨b, o + i * 8 + 3, none⟩ = some (.int .i64 l[i].val.kind) ∧ w.cell? ⟨b, o + i * 8 + 4, none⟩ = some (.int .i64 l[i].val.num) ∧ w.cell? ⟨b, o + i * 8 + 5, none⟩ = some (.string l[i].val.text) ∧
    w.cell? ⟨b, o + i * 8 + 6, none⟩ = some (.slice na l[i].val.names.length nc) ∧ w.cell? ⟨b, o + i * 8 + 7, none⟩ = some (.slice ka l[i].val.kids.length kc) ∧ OpC w S l[i] pa pc fa fc na nc ka kc)
theorem OpC.ext {X S : Nat → Prop} {w w' : World} (h : Ext X w w') (hS : ∀ k, S k → ¬ X k) {o : Opn} {pa : Option Addr} {pc : Nat} {fa : Option Addr} {fc : Nat} {na : Option Addr} {nc : Nat} {ka : Option Addr} {kc : Nat}
    (hs : OpC w S o pa pc fa fc na nc ka kc) : OpC w' S o pa pc fa fc na nc ka kc := ⟨hs.1.ext h hS, hs.2.1.ext h hS, hs.2.2.ext h hS⟩
theorem OpC.grow {S : Nat → Prop} {w w' : World} {o : Opn} {pa : Option Addr} {pc : Nat} {fa : Option Addr} {fc : Nat} {na : Option Addr} {nc : Nat} {ka : Option Addr} {kc : Nat}
    (hs : OpC w S o pa pc fa fc na nc ka kc) (h : Grow w w') : OpC w' S o pa pc fa fc na nc ka kc := hs.ext h (fun _ _ h => h)
theorem OpR.ext {X S : Nat → Prop} {w w' : World} (h : Ext X w w') (hS : ∀ k, S k → ¬ X k) {o : Opn} {v : Value} (hs : OpR w S o v) : OpR w' S o v := by
  obtain ⟨pa, pc, fa, fc, na, nc, ka, kc, hv, hc⟩ := hs
  exact ⟨pa, pc, fa, fc, na, nc, ka, kc, hv, hc.ext h hS⟩
theorem OpR.grow {S : Nat → Prop} {w w' : World} {o : Opn} {v : Value} (hs : OpR w S o v) (h : Grow w w') : OpR w' S o v := hs.ext h (fun _ _ h => h)
theorem OpsR.ext {X S : Nat → Prop} {w w' : World} (h : Ext X w w') (hS : ∀ k, S k → ¬ X k) {a : Option Addr} {c : Nat} {l : List Opn} (hs : OpsR w S a c l) : OpsR w' S a c l := by
  obtain ⟨h1, h2, h4⟩ := hs
  refine ⟨h1, h2, h4.imp id ?_⟩
  rintro ⟨b, o, rfl, hb, hc⟩
  refine ⟨b, o, rfl, hb, fun i hi => ?_⟩
  obtain ⟨pa, pc, fa, fc, na, nc, ka, kc, g0, g1, g2, g3, g4, g5, g6, g7, g⟩ := hc i hi
  exact ⟨pa, pc, fa, fc, na, nc, ka, kc, h.some g0 (hS b hb), h.some g1 (hS b hb), h.some g2 (hS b hb), h.some g3 (hS b hb), h.some g4 (hS b hb), h.some g5 (hS b hb), h.some g6 (hS b hb), h.some g7 (hS b hb), g.ext h hS⟩
theorem OpsR.grow {S : Nat → Prop} {w w' : World} {a : Option Addr} {c : Nat} {l : List Opn} (hs : OpsR w S a c l) (h : Grow w w') : OpsR w' S a c l := hs.ext h (fun _ _ h => h)
end Go.Proofs.YtfjaobfaepjfnaaDoor
namespace Go.Proofs.YtfjaobfaepjfnaaDoor
open Go.RowKit
structure Reqn where
  method : Int
  name : ByteArray
  want : List ByteArray
  avoid : List ByteArray
  body : Nd
  ops : List Opn
def reqCells (q : Reqn) (wa : Option Addr) (wc : Nat) (va : Option Addr) (vc : Nat) (na : Option Addr) (nc : Nat) (ka : Option Addr) (kc : Nat) (oa : Option Addr) (oc : Nat) : Array Value :=
  #[.int .i64 q.method, .string q.name, .slice wa q.want.length wc, .slice va q.avoid.length vc, .int .i64 q.body.kind, .int .i64 q.body.num, .string q.body.text, .slice na q.body.names.length nc, .slice ka q.body.kids.length kc, .slice oa q.ops.length oc]
def ReqC (w : World) (S : Nat → Prop) (q : Reqn) (wa : Option Addr) (wc : Nat) (va : Option Addr) (vc : Nat) (na : Option Addr) (nc : Nat) (ka : Option Addr) (kc : Nat) (oa : Option Addr) (oc : Nat) : Prop :=
  q.name.size ≤ big ∧ StrsR w S wa wc q.want ∧ StrsR w S va vc q.avoid ∧ NodeC w S q.body na nc ka kc ∧ OpsR w S oa oc q.ops
def ReqR (w : World) (S : Nat → Prop) (q : Reqn) (v : Value) : Prop := ∃ wa wc va vc na nc ka kc oa oc, v = .agg (reqCells q wa wc va vc na nc ka kc oa oc) ∧ ReqC w S q wa wc va vc na nc ka kc oa oc
theorem ReqR.ext {X S : Nat → Prop} {w w' : World} (h : Ext X w w') (hS : ∀ k, S k → ¬ X k) {q : Reqn} {v : Value} (hs : ReqR w S q v) : ReqR w' S q v := by
  obtain ⟨wa, wc, va, vc, na, nc, ka, kc, oa, oc, hv, h1, h2, h3, h4, h5⟩ := hs
  exact ⟨wa, wc, va, vc, na, nc, ka, kc, oa, oc, hv, h1, h2.ext h hS, h3.ext h hS, h4.ext h hS, h5.ext h hS⟩
theorem ReqR.grow {S : Nat → Prop} {w w' : World} {q : Reqn} {v : Value} (hs : ReqR w S q v) (h : Grow w w') : ReqR w' S q v := hs.ext h (fun _ _ h => h)
end Go.Proofs.YtfjaobfaepjfnaaDoor
namespace Go.Proofs.YtfjaobfaepjfnaaDoor
open Go.RowKit Go.ChangeShapes Go.WideShapes Go.Deep
section
variable {H : Type} {enc : TypeId × Value → H} {W : World} {base : Nat} {sp : Nat → Bool} {held : Bool}
end
end Go.Proofs.YtfjaobfaepjfnaaDoor
namespace Go.Proofs.YtfjaobfaepjfnaaDoor
open Go.RowKit Go.ChangeShapes Go.WideShapes Go.Deep
section
variable {H : Type} {enc : TypeId × Value → H} {W : World} {base : Nat} {sp : Nat → Bool} {held : Bool}
end
end Go.Proofs.YtfjaobfaepjfnaaDoor
namespace Go.Proofs.YtfjaobfaepjfnaaDoor
open Go.RowKit
end Go.Proofs.YtfjaobfaepjfnaaDoor
namespace Go.Proofs.YtfjaobfaepjfnaaDoor
open Go.RowKit
end Go.Proofs.YtfjaobfaepjfnaaDoor
namespace Go.Proofs.YtfjaobfaepjfnaaDoor
open Go.RowKit
theorem lt_trans {a b c : ByteArray} (h1 : lt a b = true) (h2 : lt b c = true) : lt a c = true := bl_trans _ _ _ h1 h2
end Go.Proofs.YtfjaobfaepjfnaaDoor
namespace Go.Proofs.YtfjaobfaepjfnaaDoor
open Go.RowKit Go.ChangeShapes Go.WideShapes Go.Deep
section
variable {H : Type} {enc : TypeId × Value → H} {W : World} {base : Nat} {sp : Nat → Bool} {held : Bool}
theorem rv_node {fuel : Nat} {cs : Array Value} {x : DataW H × List MemPlace} (h : DataW.trod enc Tryd.prog W base sp held fuel 44 cs.toList = some x) : ∃ y, RV nodeRep packA W any y (.agg cs) := by
  obtain ⟨q, na, nc, ka, kc, e2, hq⟩ := open_node _ _ _ h
  exact ⟨q, cs.toList, rfl, na, nc, ka, kc, e2, hq⟩
theorem rv_strs {fuel : Nat} {v : Value} {x : DataW H × List MemPlace} (h : DataW.trod enc Tryd.prog W base sp held fuel 23 [v] = some x) : ∃ y, RV strsRep packO W any y v := by
  obtain ⟨a, c, xs, e, hs⟩ := open_strs' h
  exact ⟨xs, [v], rfl, a, c, e, hs⟩
end
end Go.Proofs.YtfjaobfaepjfnaaDoor
