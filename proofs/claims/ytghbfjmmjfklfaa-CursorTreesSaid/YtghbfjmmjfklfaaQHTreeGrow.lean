/- Plain laws of trees, on: what holds of a tree that may be; what rows grow to; a twin; a tree is the same as itself. -/
import Derived.Test.YtghbfjmmjfklfaaQHTreePlain
import Derived.Test.YtghbfjmmjfklfaaQHxglossatorlaw15Grow
import Derived.Test.YtghbfjmmjfklfaaQHxglossatorref15Same
import Derived.OpenShut
set_option linter.unusedVariables false
set_option linter.unusedSimpArgs false
namespace Go.Proofs.Ytghbfjmmjfklfaa.H
open Go.RowKit Go.Proofs.YtghbfjmmjfklfaaW.PrintWords Go.Proofs.YtghbfjmmjfklfaaW.PrintLast Go.Proofs.YtghbfjmmjfklfaaW.PrintMore
def okB (t : S27) : Bool := (mayN t 1 0).2
theorem right_prog (k w wd : Int) (kids : List S27) : tree_Right.f k w wd kids = some (okB ⟨k, w, wd, kids⟩) := rfl
theorem tsize_pos (t : S27) : 1 ≤ tsize t := by cases t; simp only [tsize]; omega
theorem right_ref (k w wd : Int) (kids : List S27) (hb : byteT ⟨k, w, wd, kids⟩) : Ev (fun n => glossatorref15_Right.f n k w wd kids) (okB ⟨k, w, wd, kids⟩) := by
  obtain ⟨h1, h2⟩ := may_ref ⟨k, w, wd, kids⟩ 1 0 hb (by omega) (by omega) (by omega) (by omega)
  have hs := tsize_pos ⟨k, w, wd, kids⟩
  refine Ev.congr (fun n => by unfold glossatorref15_Right.f; rfl) (Ev.bind (f := fun _ t163 => some (decide (t163 > 0))) h1 (Ev.const ?_))
  unfold okB
  cases hm : (mayN ⟨k, w, wd, kids⟩ 1 0).2 with
  | false => simp
  | true =>
    have := (h2 hm).2
    rw [if_pos rfl]
    congr 1
    rw [decide_eq_true_eq]
    omega
def wsum : List S27 → Int
  | [] => 0
  | t :: r => t.f2 + wsum r
mutual
/-- What holds of a tree that may be: widths, and where kids are. -/
def goodT : S27 → Prop
  | ⟨k, w, wd, kids⟩ => (0 ≤ wd ∧ wd ≤ 1099511627776) ∧ (k ≤ 50 → kids = []) ∧ (50 < k → wsum kids = wd) ∧ k ≤ 68 ∧ goodL kids
def goodL : List S27 → Prop
  | [] => True
  | t :: r => goodT t ∧ goodL r
end
theorem goodT.w {t : S27} (h : goodT t) : 0 ≤ t.f2 ∧ t.f2 ≤ 1099511627776 := by
  cases t
  simp only [goodT] at h
  exact h.1
mutual
theorem may_good : ∀ (t : S27) (at_ c : Int), byteT t → 1 ≤ at_ → at_ ≤ 65537 → 0 ≤ c → c ≤ 1048576 → (mayN t at_ c).2 = true → goodT t
  | ⟨k, w, wd, kids⟩, at_, c, hb, ha, ha2, hc, hc2, h => by
    obtain ⟨⟨hk0, _⟩, ⟨hw0, _⟩, hkids⟩ := (by simpa only [byteT] using hb : (0 ≤ k ∧ k ≤ 255) ∧ (0 ≤ w ∧ w ≤ 255) ∧ byteL kids)
    have hcw : wrap64 (c + 1) = c + 1 := wrap_id (by omega) (by omega)
    simp only [mayN, hcw] at h
    by_cases t1 : c + 1 > 1048576
    · rw [if_pos t1] at h; cases h
    rw [if_neg t1] at h
    by_cases t2 : at_ > 65536
    · rw [if_pos t2] at h; cases h
    rw [if_neg t2] at h
    by_cases t3 : k ≤ 50
    · rw [if_pos t3] at h
      obtain ⟨rfl, h1, h2, _⟩ := leafB_facts h
      simp only [goodT, goodL, and_true]
      exact ⟨⟨h1, h2⟩, fun _ => trivial, fun h => by omega, by omega⟩
    rw [if_neg t3] at h
    by_cases t4 : k > 68
    · rw [if_pos t4] at h; cases h
    rw [if_neg t4] at h
    by_cases t5 : w = 0
    case neg => rw [if_pos (show w ≠ 0 from t5)] at h; cases h
    rw [if_neg (show ¬ (w ≠ 0) from fun h => h t5)] at h
    by_cases t6 : k = 51 ∧ at_ > 1
    · rw [if_pos t6] at h; cases h
    rw [if_neg t6] at h
    revert h
    cases hm : mayL kids at_ (c + 1) 0 with
    | mk c' o =>
      cases o with
      | none => intro h; cases h
      | some s =>
        intro h
        simp only [Bool.and_eq_true, decide_eq_true_eq] at h
        obtain ⟨g1, g2, g3⟩ := mayL_good kids at_ (c + 1) 0 c' s hkids ha (by omega) (by omega) (by omega) (by omega) (by omega) hm
        simp only [goodT]
        exact ⟨⟨by omega, by omega⟩, fun h => absurd h t3, fun _ => by omega, by omega, g3⟩
theorem mayL_good : ∀ (l : List S27) (at_ c sum c' s : Int), byteL l → 1 ≤ at_ → at_ ≤ 65536 → 0 ≤ c → c ≤ 1048576 → 0 ≤ sum → sum ≤ 1099511627776 * c → mayL l at_ c sum = (c', some s) → s = sum + wsum l ∧ 0 ≤ wsum l ∧ goodL l
  | [], at_, c, sum, c', s, _, _, _, _, _, _, _, h => by
    simp only [mayL, Prod.mk.injEq, Option.some.injEq] at h
    simp only [wsum, goodL]
    exact ⟨by omega, by omega, trivial⟩
  | t :: r, at_, c, sum, c', s, hb, ha, ha2, hc, hc2, h0, h1, h => by
    obtain ⟨hbt, hbr⟩ := (by simpa only [byteL] using hb : byteT t ∧ byteL r)
    have haw : wrap64 (at_ + 1) = at_ + 1 := wrap_id (by omega) (by omega)
    simp only [mayL, haw] at h
    obtain ⟨_, m2⟩ := may_ref t (at_ + 1) c hbt (by omega) (by omega) hc hc2
    cases hm : mayN t (at_ + 1) c with
    | mk c2 b =>
      rw [hm] at h m2
      cases b with
      | false => simp at h
      | true =>
        simp only at h
        obtain ⟨k1, k2⟩ := m2 rfl
        simp only at k1 k2
        have hs := tsize_pos t
        have hg := may_good t (at_ + 1) c hbt (by omega) (by omega) hc hc2 (by rw [hm])
        have hw := hg.w
        rw [wrap_id (by omega) (by omega)] at h
        obtain ⟨q1, q2, q3⟩ := mayL_good r at_ c2 (sum + t.f2) c' s hbr ha ha2 (by omega) k1 (by omega) (by omega) h
        simp only [wsum, goodL]
        exact ⟨by omega, by omega, hg, q3⟩
end
theorem ok_good (t : S27) (hb : byteT t) (h : okB t = true) : goodT t := may_good t 1 0 hb (by omega) (by omega) (by omega) (by omega) h
theorem eta27 (t : S27) : (⟨t.f0, t.f1, t.f2, t.f3⟩ : S27) = t := by cases t; rfl
def rowOk (r : S94) : Prop := (0 ≤ r.f1 ∧ r.f1 ≤ 255) ∧ (0 ≤ r.f2 ∧ r.f2 ≤ 255)
theorem rd_row (l : List S94) (i : Nat) (h : i < l.length) : rd_T94 l (i : Int) = l[i] := by
  simp [rd_T94, List.getD_eq_getElem?_getD, List.getElem?_eq_getElem h]
theorem grow_ev (l : List S94) (hl : l.length ≤ 3000) (hr : ∀ r ∈ l, rowOk r) (m : Nat) :
    (∀ i : Nat, i < l.length → l.length - i ≤ m → ∃ (t : S27) (to_ : Nat), Ev (fun n => glossatorlaw15_grow.f n l (i : Int)) (t.f0, t.f1, t.f2, t.f3, (to_ : Int)) ∧ i < to_ ∧ to_ ≤ l.length ∧ byteT t ∧ tsize t ≤ to_ - i) ∧
    (∀ (a i : Nat) (k w wd : Int) (kids : List S27), a < l.length → i ≤ l.length → l.length - i ≤ m → kids.length ≤ i → ∃ (wd' : Int) (more : List S27) (to_ : Nat), Ev (fun n => glossatorlaw15_grow.l0 n l (a : Int) (i : Int) k w wd kids) (k, w, wd', kids ++ more, (to_ : Int)) ∧ i ≤ to_ ∧ to_ ≤ l.length ∧ byteL more ∧ lsize more ≤ to_ - i) := by
  induction m with
  | zero =>
    refine ⟨fun i hi hm => by omega, fun a i k w wd kids ha hi hm hk => ⟨wd, [], i, ?_, Nat.le_refl _, hi, by simp [byteL], by simp [lsize]⟩⟩
    refine Ev.step (f := fun _ => some (k, w, wd, kids ++ [], (i : Int))) (fun n => ?_) (Ev.now _)
    rw [glossatorlaw15_grow.l0, if_neg (by omega), List.append_nil]
  | succ m ih =>
    obtain ⟨ihg, ihl⟩ := ih
    have hgrow : ∀ i : Nat, i < l.length → l.length - i ≤ m + 1 → ∃ (t : S27) (to_ : Nat), Ev (fun n => glossatorlaw15_grow.f n l (i : Int)) (t.f0, t.f1, t.f2, t.f3, (to_ : Int)) ∧ i < to_ ∧ to_ ≤ l.length ∧ byteT t ∧ tsize t ≤ to_ - i := by
      intro i hi hm
      obtain ⟨wd', more, to_, h1, h2, h3, h4, h5⟩ := ihl i (i + 1) l[i].f1 l[i].f2 l[i].f3 [] hi (by omega) (by omega) (by simp)
      obtain ⟨b1, b2⟩ := hr _ (List.getElem_mem hi)
      refine ⟨⟨l[i].f1, l[i].f2, wd', more⟩, to_, ?_, by omega, h3, by simp only [byteT]; exact ⟨b1, b2, h4⟩, by simp only [tsize]; omega⟩
      refine Ev.step (fun n => ?_) h1
      rw [glossatorlaw15_grow.f, if_pos (by omega), if_pos (by omega), rd_row l i hi, wrap_id (by omega) (by omega)]
      rfl
    refine ⟨hgrow, fun a i k w wd kids ha hi hm hk => ?_⟩
    by_cases hlt : i < l.length
    · by_cases hd : l[i].f0 > l[a].f0
      · obtain ⟨t, to_, g1, g2, g3, g4, g5⟩ := hgrow i hlt (by omega)
        obtain ⟨wd', more, to2, h1, h2, h3, h4, h5⟩ := ihl a to_ k w (wrap64 (wd + t.f2)) (kids ++ [t]) ha g3 (by omega) (by simp; omega)
        refine ⟨wd', t :: more, to2, ?_, by omega, h3, by simp only [byteL]; exact ⟨g4, h4⟩, by simp only [lsize]; omega⟩
        refine Ev.step (f := fun n => (glossatorlaw15_grow.f n l (i : Int)).bind fun bt108 => (if kids.length < 3518437208883 then (glossatorlaw15_grow.l0 n l (a : Int) bt108.2.2.2.2 k w (wrap64 (wd + bt108.2.2.1)) (kids ++ [(⟨bt108.1, bt108.2.1, bt108.2.2.1, bt108.2.2.2.1⟩ : S27)])) else none)) (fun n => ?_) (Ev.bind (f := fun n bt108 => if kids.length < 3518437208883 then _ else none) g1 ?_)
        · rw [glossatorlaw15_grow.l0, if_pos (by omega), if_pos (by omega), if_pos (by omega), if_pos (by omega), rd_row l i hlt, rd_row l a ha, if_pos hd]
        · simp only [if_pos (show kids.length < 3518437208883 by omega)]
          rw [List.append_assoc, List.singleton_append] at h1
          simp only [eta27]
          exact h1
      · refine ⟨wd, [], i, ?_, Nat.le_refl _, hi, by simp [byteL], by simp [lsize]⟩
        refine Ev.step (f := fun _ => some (k, w, wd, kids ++ [], (i : Int))) (fun n => ?_) (Ev.now _)
        rw [glossatorlaw15_grow.l0, if_pos (by omega), if_pos (by omega), if_pos (by omega), if_pos (by omega), rd_row l i hlt, rd_row l a ha, if_neg hd, List.append_nil]
    · refine ⟨wd, [], i, ?_, Nat.le_refl _, hi, by simp [byteL], by simp [lsize]⟩
      refine Ev.step (f := fun _ => some (k, w, wd, kids ++ [], (i : Int))) (fun n => ?_) (Ev.now _)
      rw [glossatorlaw15_grow.l0, if_neg (by omega), List.append_nil]
theorem Grow_ev (l : List S94) (hr : ∀ r ∈ l, rowOk r) : Ev (fun n => glossatorlaw15_Grow.f n l) (0, 0, 0, [], false) ∨ ∃ t : S27, Ev (fun n => glossatorlaw15_Grow.f n l) (t.f0, t.f1, t.f2, t.f3, true) ∧ byteT t ∧ tsize t ≤ 3000 := by
  by_cases h0 : (l.length : Int) = 0
  · exact .inl (Ev.congr (f := fun _ => some (0, 0, 0, [], false)) (fun n => by unfold glossatorlaw15_Grow.f; rw [if_pos h0]) (Ev.now _))
  · by_cases h1 : (l.length : Int) > 3000
    · exact .inl (Ev.congr (f := fun _ => some (0, 0, 0, [], false)) (fun n => by unfold glossatorlaw15_Grow.f; rw [if_neg h0, if_pos h1]) (Ev.now _))
    · obtain ⟨t, to_, g1, g2, g3, g4, g5⟩ := (grow_ev l (by omega) hr l.length).1 0 (by omega) (by omega)
      refine .inr ⟨t, ?_, g4, by omega⟩
      exact Ev.congr (fun n => by unfold glossatorlaw15_Grow.f; rw [if_neg h0, if_neg h1]; rfl) (Ev.bind (f := fun _ bt120 => some (bt120.1, bt120.2.1, bt120.2.2.1, bt120.2.2.2.1, true)) g1 (Ev.now _))
mutual
theorem same_refl : ∀ (t : S27), tsize t ≤ 2000000 → Ev (fun n => glossatorref15_Same.f n t.f0 t.f1 t.f2 t.f3 t.f0 t.f1 t.f2 t.f3) true
  | ⟨k, w, wd, kids⟩, h => by
    simp only [tsize] at h
    have h1 := sameL_refl kids [] k w wd (by omega) (by simp)
    rw [List.nil_append] at h1
    have h2 : Ev (fun n => glossatorref15_Same.j0 n false k w wd kids k w wd kids) true := Ev.step (fun n => by rw [glossatorref15_Same.j0, if_neg (by simp)]; rfl) h1
    exact Ev.step (fun n => by rw [glossatorref15_Same.f, if_pos rfl, if_pos rfl, if_pos rfl, bne_self_eq_false]) h2
theorem sameL_refl : ∀ (l p : List S27) (k w wd : Int), lsize l ≤ 2000000 → p.length ≤ 2000000 - lsize l → Ev (fun n => glossatorref15_Same.l0 n (p.length : Int) k w wd (p ++ l) k w wd (p ++ l)) true
  | [], p, k, w, wd, _, _ => Ev.step (f := fun _ => some true) (fun n => by rw [glossatorref15_Same.l0, if_neg (by simp)]) (Ev.now _)
  | t :: r, p, k, w, wd, h, hp => by
    simp only [lsize] at h hp
    have hs := tsize_pos t
    have h1 := same_refl t (by omega)
    have h2 := sameL_refl r (p ++ [t]) k w wd (by omega) (by simp; omega)
    refine Ev.step (f := fun n => (glossatorref15_Same.f n t.f0 t.f1 t.f2 t.f3 t.f0 t.f1 t.f2 t.f3).bind fun t178 => (if t178 = true then (glossatorref15_Same.l0 n ((p.length : Int) + 1) k w wd (p ++ t :: r) k w wd (p ++ t :: r)) else (some false))) (fun n => ?_) (Ev.bind (f := fun n t178 => if t178 = true then _ else some false) h1 ?_)
    · rw [glossatorref15_Same.l0, if_pos (by simp; omega), if_pos (by omega), if_pos (by simp; omega), rd_mid27, wrap_id (by omega) (by omega)]
    · simp only [if_true]
      have e : ((p.length + 1 : Nat) : Int) = (p.length : Int) + 1 := by omega
      rw [List.length_append, List.length_singleton, List.append_assoc, List.singleton_append, e] at h2
      exact h2
end
end Go.Proofs.Ytghbfjmmjfklfaa.H
