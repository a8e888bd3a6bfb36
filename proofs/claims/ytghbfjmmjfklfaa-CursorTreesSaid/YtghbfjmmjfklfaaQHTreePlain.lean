/- Plain laws of trees: whether a tree may be is told alike by the program and by the document's answer; what holds of a tree that may be. -/
import Derived.Test.YtghbfjmmjfklfaaQHTreeMay
import Derived.Test.YtghbfjmmjfklfaaQHxglossatorref15Right
set_option linter.unusedVariables false
set_option linter.unusedSimpArgs false
namespace Go.Proofs.Ytghbfjmmjfklfaa.H
open Go.RowKit Go.Proofs.YtghbfjmmjfklfaaW.PrintWords Go.Proofs.YtghbfjmmjfklfaaW.PrintLast Go.Proofs.YtghbfjmmjfklfaaW.PrintMore
theorem wrap_id {x : Int} (h0 : -9223372036854775808 ≤ x) (h1 : x ≤ 9223372036854775807) : wrap64 x = x := by unfold wrap64; omega
theorem Ev.const {α : Type} {o : Option α} {r : α} (h : o = some r) : Ev (fun _ => o) r := ⟨0, fun _ _ => h⟩
mutual
/-- How many nodes a tree has. -/
def tsize : S27 → Nat
  | ⟨_, _, _, kids⟩ => 1 + lsize kids
def lsize : List S27 → Nat
  | [] => 0
  | t :: r => tsize t + lsize r
end
mutual
/-- Kinds and what is missing are those of a byte. -/
def byteT : S27 → Prop
  | ⟨k, w, wd, kids⟩ => (0 ≤ k ∧ k ≤ 255) ∧ (0 ≤ w ∧ w ≤ 255) ∧ byteL kids
def byteL : List S27 → Prop
  | [] => True
  | t :: r => byteT t ∧ byteL r
end
theorem counts_byte (a : Int) (h0 : 0 ≤ a) : glossatorref12_Counts.f a = some (countsB a) := by
  unfold glossatorref12_Counts.f glossatorref12_Token.f countsB triviaL
  by_cases h1 : a = 1
  · subst h1; rfl
  by_cases h2 : a = 2
  · subst h2; rfl
  by_cases h3 : a = 3
  · subst h3; rfl
  by_cases h4 : a = 4
  · subst h4; rfl
  by_cases h5 : a = 5
  · subst h5; rfl
  by_cases h9 : a = 9
  · subst h9; rfl
  by_cases h00 : a = 0
  · subst h00; rfl
  rw [if_neg h1, if_neg h2, if_neg h3, if_neg h4, if_neg h5, if_neg h9, if_pos (by omega)]
  have hc : ([0, 1, 2, 3, 4, 5, 9] : List Int).contains a = false := by simp [h1, h2, h3, h4, h5, h9, h00]
  rw [hc]
  by_cases g1 : a ≤ 17
  · rw [if_pos g1]
    simp [g1]; omega
  · rw [if_neg g1]
    by_cases g2 : a ≥ 20
    · rw [if_pos g2]
      simp [g1, g2]
    · rw [if_neg g2]
      simp [g1]; omega
theorem leaf_same (k w wd : Int) (kids : List S27) (hk : 0 ≤ k) (hw : 0 ≤ w) : glossatorref15_leaf.f k w wd kids = some (leafB k w wd kids) := by
  rw [← leaf_some]
  unfold glossatorref15_leaf.f tree_leaf.f
  rw [counts_byte w hw]
  have ht : glossatorref12_Token.f k = tree_token.f k := by
    unfold glossatorref12_Token.f tree_token.f
    rfl
  rw [ht]
  rfl
theorem leafB_facts {k w wd : Int} {kids : List S27} (h : leafB k w wd kids = true) : kids = [] ∧ 0 ≤ wd ∧ wd ≤ 1099511627776 ∧ (k = 50 → wd = 0) ∧ (k ≠ 50 → 1 ≤ wd ∧ w = 0) ∧ (k = 50 ∨ (1 ≤ k ∧ k ≤ 17) ∨ (20 ≤ k ∧ k ≤ 40)) := by
  have h1 := leaf_some k w wd kids
  rw [h] at h1
  unfold tree_leaf.f at h1
  split at h1
  · cases h1
  · rename_i hl
    have hk : kids = [] := List.eq_nil_of_length_eq_zero (by omega)
    split at h1
    · rename_i h50
      split at h1
      · rename_i h0
        exact ⟨hk, by omega, by omega, fun _ => h0, fun h => absurd h50 h, .inl h50⟩
      · cases h1
    · rename_i h50
      have htok : ∀ b, tree_token.f k = some b → b = true → (1 ≤ k ∧ k ≤ 17) ∨ (20 ≤ k ∧ k ≤ 40) := by
        intro b hb hbt
        subst hbt
        unfold tree_token.f at hb
        split at hb
        · split at hb
          · omega
          · split at hb
            · simp at hb; omega
            · cases hb
        · split at hb
          · simp at hb; omega
          · cases hb
      cases ht : tree_token.f k with
      | none => rw [ht] at h1; cases h1
      | some b =>
        rw [ht, Option.bind_some] at h1
        split at h1
        · rename_i hbt
          split at h1
          · split at h1
            · simp at h1
              exact ⟨hk, by omega, by omega, fun h => absurd h h50, fun _ => ⟨by omega, h1⟩, .inr (htok b ht hbt)⟩
            · cases h1
          · cases h1
        · cases h1
section
variable (k w wd at_ c : Int) (kids : List S27)
theorem j2_true : Ev (fun n => glossatorref15_may.j2 n at_ (1048576 - c) true k w wd kids) 0 :=
  Ev.step (f := fun _ => some 0) (fun n => by rw [glossatorref15_may.j2, if_pos rfl]) (Ev.now 0)
theorem j2_false {r : Int} (h : Ev (fun n => glossatorref15_may.l0 n at_ (1048576 - c) 1 0 0 k w wd kids) r) : Ev (fun n => glossatorref15_may.j2 n at_ (1048576 - c) false k w wd kids) r :=
  Ev.step (f := fun n => glossatorref15_may.l0 n at_ (1048576 - c) 1 0 0 k w wd kids) (fun n => by rw [glossatorref15_may.j2, if_neg (by simp)]) h
theorem j1_true (hk : 0 ≤ k) (hw : 0 ≤ w) : Ev (fun n => glossatorref15_may.j1 n at_ (1048576 - c) true k w wd kids) (if leafB k w wd kids then 1 else 0) :=
  Ev.step (f := fun _ => some (if leafB k w wd kids then 1 else 0)) (fun n => by
    rw [glossatorref15_may.j1, if_pos rfl, leaf_same k w wd kids hk hw, Option.bind_some]
    cases leafB k w wd kids <;> simp) (Ev.now _)
theorem j1_bad (hw : w ≠ 0) : Ev (fun n => glossatorref15_may.j1 n at_ (1048576 - c) false k w wd kids) 0 :=
  Ev.step (f := fun n => glossatorref15_may.j2 n at_ (1048576 - c) true k w wd kids) (fun n => by rw [glossatorref15_may.j1, if_neg (by simp), if_neg hw]) (j2_true k w wd at_ c kids)
theorem j1_file (hw : w = 0) (h51 : k = 51) (ha : at_ > 1) : Ev (fun n => glossatorref15_may.j1 n at_ (1048576 - c) false k w wd kids) 0 :=
  Ev.step (f := fun n => glossatorref15_may.j2 n at_ (1048576 - c) true k w wd kids) (fun n => by rw [glossatorref15_may.j1, if_neg (by simp), if_pos hw, if_pos h51, decide_eq_true ha]) (j2_true k w wd at_ c kids)
theorem j1_inner (hw : w = 0) (h51 : ¬ (k = 51 ∧ at_ > 1)) {r : Int} (h : Ev (fun n => glossatorref15_may.l0 n at_ (1048576 - c) 1 0 0 k w wd kids) r) : Ev (fun n => glossatorref15_may.j1 n at_ (1048576 - c) false k w wd kids) r :=
  Ev.step (f := fun n => glossatorref15_may.j2 n at_ (1048576 - c) false k w wd kids) (fun n => by
    rw [glossatorref15_may.j1, if_neg (by simp), if_pos hw]
    by_cases e : k = 51
    · rw [if_pos e, decide_eq_false (fun h => h51 ⟨e, h⟩)]
    · rw [if_neg e]) (j2_false k w wd at_ c kids h)
theorem may_none (h : at_ > 65536 ∨ 1048576 - c < 1) : Ev (fun n => glossatorref15_may.f n k w wd kids at_ (1048576 - c)) 0 := by
  have hj : Ev (fun n => glossatorref15_may.j0 n at_ (1048576 - c) true k w wd kids) 0 := Ev.step (f := fun _ => some 0) (fun n => by rw [glossatorref15_may.j0, if_pos rfl]) (Ev.now 0)
  refine Ev.step (f := fun n => glossatorref15_may.j0 n at_ (1048576 - c) true k w wd kids) (fun n => ?_) hj
  rw [glossatorref15_may.f]
  by_cases ha : at_ > 65536
  · rw [if_pos ha]
  · rw [if_neg ha, decide_eq_true (by omega)]
theorem may_some (h1 : ¬ at_ > 65536) (h2 : ¬ 1048576 - c < 1) {r : Int} (h : if k < 51 then Ev (fun n => glossatorref15_may.j1 n at_ (1048576 - c) true k w wd kids) r else if k > 68 then Ev (fun n => glossatorref15_may.j1 n at_ (1048576 - c) true k w wd kids) r else Ev (fun n => glossatorref15_may.j1 n at_ (1048576 - c) false k w wd kids) r) :
    Ev (fun n => glossatorref15_may.f n k w wd kids at_ (1048576 - c)) r := by
  refine Ev.step (f := fun n => glossatorref15_may.j0 n at_ (1048576 - c) false k w wd kids) (fun n => by rw [glossatorref15_may.f, if_neg h1, decide_eq_false h2]) ?_
  by_cases hk : k < 51
  · rw [if_pos hk] at h
    exact Ev.step (fun n => by rw [glossatorref15_may.j0, if_neg (by simp), if_pos hk]) h
  · rw [if_neg hk] at h
    by_cases hk2 : k > 68
    · rw [if_pos hk2] at h
      exact Ev.step (fun n => by rw [glossatorref15_may.j0, if_neg (by simp), if_neg hk, decide_eq_true hk2]) h
    · rw [if_neg hk2] at h
      exact Ev.step (fun n => by rw [glossatorref15_may.j0, if_neg (by simp), if_neg hk, decide_eq_false hk2]) h
end
theorem rd_mid27 (p : List S27) (t : S27) (r : List S27) : rd_T27 (p ++ t :: r) (p.length : Int) = t := by
  simp [rd_T27, List.getD_eq_getElem?_getD]
def kidsR (c0 wd : Int) : Int × Option Int → Int
  | (_, none) => 0
  | (c', some s) => if s = wd then (if s > 1099511627776 then 0 else c' - c0) else 0
mutual
theorem may_ref : ∀ (t : S27) (at_ c : Int), byteT t → 1 ≤ at_ → at_ ≤ 65537 → 0 ≤ c → c ≤ 1048576 →
    Ev (fun n => glossatorref15_may.f n t.f0 t.f1 t.f2 t.f3 at_ (1048576 - c)) (if (mayN t at_ c).2 then (mayN t at_ c).1 - c else 0) ∧
    ((mayN t at_ c).2 = true → (mayN t at_ c).1 ≤ 1048576 ∧ (mayN t at_ c).1 = c + tsize t)
  | ⟨k, w, wd, kids⟩, at_, c, hb, ha, ha2, hc, hc2 => by
    obtain ⟨⟨hk0, _⟩, ⟨hw0, _⟩, hkids⟩ := (by simpa only [byteT] using hb : (0 ≤ k ∧ k ≤ 255) ∧ (0 ≤ w ∧ w ≤ 255) ∧ byteL kids)
    have hcw : wrap64 (c + 1) = c + 1 := wrap_id (by omega) (by omega)
    simp only [mayN, hcw]
    by_cases t1 : c + 1 > 1048576
    · rw [if_pos t1]
      exact ⟨may_none k w wd at_ c kids (.inr (by omega)), fun h => by cases h⟩
    rw [if_neg t1]
    by_cases t2 : at_ > 65536
    · rw [if_pos t2]
      exact ⟨may_none k w wd at_ c kids (.inl t2), fun h => by cases h⟩
    rw [if_neg t2]
    by_cases t3 : k ≤ 50
    · rw [if_pos t3]
      refine ⟨may_some k w wd at_ c kids t2 (by omega) ?_, fun h => ?_⟩
      · rw [if_pos (by omega)]
        have := j1_true k w wd at_ c kids hk0 hw0
        simp only
        rw [show c + 1 - c = 1 by omega]
        exact this
      · obtain ⟨rfl, _⟩ := leafB_facts h
        simp only [tsize, lsize]
        omega
    rw [if_neg t3]
    by_cases t4 : k > 68
    · rw [if_pos t4]
      refine ⟨may_some k w wd at_ c kids t2 (by omega) ?_, fun h => by cases h⟩
      rw [if_neg (by omega), if_pos t4]
      have := j1_true k w wd at_ c kids hk0 hw0
      cases hL : leafB k w wd kids with
      | false => rw [hL] at this; exact this
      | true => obtain ⟨_, _, _, _, _, h6⟩ := leafB_facts hL; omega
    rw [if_neg t4]
    by_cases t5 : w = 0
    case neg =>
      rw [if_pos (show w ≠ 0 from t5)]
      refine ⟨may_some k w wd at_ c kids t2 (by omega) ?_, fun h => by cases h⟩
      rw [if_neg (by omega), if_neg t4]
      exact j1_bad k w wd at_ c kids t5
    rw [if_neg (show ¬ (w ≠ 0) from fun h => h t5)]
    by_cases t6 : k = 51 ∧ at_ > 1
    · rw [if_pos t6]
      refine ⟨may_some k w wd at_ c kids t2 (by omega) ?_, fun h => by cases h⟩
      rw [if_neg (by omega), if_neg t4]
      exact j1_file k w wd at_ c kids t5 t6.1 t6.2
    rw [if_neg t6]
    obtain ⟨h1, h2⟩ := mayL_ref kids [] at_ (c + 1) c 0 k w wd hkids ha (by omega) hc (by omega) (by omega) (by simp; omega)
    rw [show c + 1 - c = 1 by omega] at h1
    refine ⟨may_some k w wd at_ c kids t2 (by omega) ?_, ?_⟩
    · rw [if_neg (by omega), if_neg t4]
      have h3 := j1_inner k w wd at_ c kids t5 t6 h1
      revert h3 h2
      cases hm : mayL kids at_ (c + 1) 0 with
      | mk c' o =>
        cases o with
        | none => intro _ h3; exact h3
        | some s =>
          intro _ h3
          simp only [kidsR] at h3 ⊢
          by_cases e : s = wd
          · rw [if_pos e] at h3
            by_cases g : s > 1099511627776
            · rw [if_pos g] at h3
              rw [if_neg (by simp [e]; omega)]
              exact h3
            · rw [if_neg g] at h3
              rw [if_pos (by simp [e]; omega)]
              exact h3
          · rw [if_neg e] at h3
            rw [if_neg (by simp [e])]
            exact h3
    · revert h2
      cases hm : mayL kids at_ (c + 1) 0 with
      | mk c' o =>
        cases o with
        | none => intro _ h; cases h
        | some s =>
          intro h2 _
          obtain ⟨g1, g2⟩ := h2 c' s rfl
          simp only [tsize]
          omega
theorem mayL_ref : ∀ (l p : List S27) (at_ c c0 sum k w wd : Int), byteL l → 1 ≤ at_ → at_ ≤ 65536 → 0 ≤ c0 → c0 < c → c ≤ 1048576 → (p.length : Int) ≤ c →
    Ev (fun n => glossatorref15_may.l0 n at_ (1048576 - c0) (c - c0) sum (p.length : Int) k w wd (p ++ l)) (kidsR c0 wd (mayL l at_ c sum)) ∧
    ∀ c' s, mayL l at_ c sum = (c', some s) → c' ≤ 1048576 ∧ c' = c + lsize l
  | [], p, at_, c, c0, sum, k, w, wd, _, _, _, _, _, hc, _ => by
    refine ⟨Ev.step (f := fun _ => some (kidsR c0 wd (mayL [] at_ c sum))) (fun n => ?_) (Ev.now _), fun c' s h => ?_⟩
    · rw [glossatorref15_may.l0, if_neg (by simp)]
      simp only [mayL, kidsR]
      split
      · split <;> rfl
      · rfl
    · simp only [mayL, Prod.mk.injEq] at h
      simp only [lsize]
      omega
  | t :: r, p, at_, c, c0, sum, k, w, wd, hb, ha, ha2, hc0, hcc, hc, hp => by
    obtain ⟨hbt, hbr⟩ := (by simpa only [byteL] using hb : byteT t ∧ byteL r)
    have haw : wrap64 (at_ + 1) = at_ + 1 := wrap_id (by omega) (by omega)
    obtain ⟨h1, h2⟩ := may_ref t (at_ + 1) c hbt (by omega) (by omega) (by omega) hc
    have step : ∀ n, glossatorref15_may.l0 (n + 1) at_ (1048576 - c0) (c - c0) sum (p.length : Int) k w wd (p ++ t :: r) = (glossatorref15_may.f n t.f0 t.f1 t.f2 t.f3 (at_ + 1) (1048576 - c)).bind fun t160 => if t160 = 0 then some 0 else glossatorref15_may.l0 n at_ (1048576 - c0) (wrap64 (c - c0 + t160)) (wrap64 (sum + t.f2)) ((p.length : Int) + 1) k w wd (p ++ t :: r) := by
      intro n
      rw [glossatorref15_may.l0, if_pos (by simp; omega), if_pos (by omega), rd_mid27, haw, wrap_id (x := 1048576 - c0 - (c - c0)) (by omega) (by omega), show 1048576 - c0 - (c - c0) = 1048576 - c by omega, wrap_id (x := (p.length : Int) + 1) (by omega) (by omega)]
    simp only [mayL, haw]
    cases hm : mayN t (at_ + 1) c with
    | mk c' b =>
      rw [hm] at h1 h2
      cases b with
      | false =>
        refine ⟨Ev.step step (Ev.bind (f := fun n t160 => if t160 = 0 then some 0 else _) h1 (Ev.const (by simp [kidsR]))), fun c' s h => by simp at h⟩
      | true =>
        obtain ⟨g1, g2⟩ := h2 rfl
        simp only at g1 g2
        have hts : 1 ≤ tsize t := by cases t; simp only [tsize]; omega
        obtain ⟨k1, k2⟩ := mayL_ref r (p ++ [t]) at_ c' c0 (wrap64 (sum + t.f2)) k w wd hbr ha ha2 hc0 (by omega) g1 (by simp; omega)
        have h1' : Ev (fun n => glossatorref15_may.f n t.f0 t.f1 t.f2 t.f3 (at_ + 1) (1048576 - c)) (c' - c) := h1
        refine ⟨Ev.step step (Ev.bind (f := fun n t160 => if t160 = 0 then some 0 else _) h1' ?_), fun c2 s h => ?_⟩
        · have hne : ¬ (c' - c = 0) := by omega
          simp only [if_neg hne]
          rw [wrap_id (x := c - c0 + (c' - c)) (by omega) (by omega), show c - c0 + (c' - c) = c' - c0 by omega]
          rw [List.length_append, List.length_singleton, List.append_assoc, List.singleton_append] at k1
          exact k1
        · obtain ⟨q1, q2⟩ := k2 c2 s h
          simp only [lsize]
          omega
end
end Go.Proofs.Ytghbfjmmjfklfaa.H
