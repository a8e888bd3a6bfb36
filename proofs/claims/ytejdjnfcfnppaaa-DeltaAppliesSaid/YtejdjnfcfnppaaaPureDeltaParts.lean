/- DeltaParts, as a law of lists alone: right splices come to the same, if the last one is applied ahead of the others; of at most 2000 splices, and 50,000 numbers together. -/
import Derived.Test.YtejdjnfcfnppaaaHxglossatorlaw24DeltaParts
import Derived.Test.YtejdjnfcfnppaaaHDeltaPlain
import Derived.Test.YtejdjnfcfnppaaaHOpen27
set_option linter.unusedVariables false
set_option linter.unusedSimpArgs false
namespace Go.Proofs.Ytejdjnfcfnppaaa.Pure
open Go.RowKit Go.Proofs.Ytejdjnfcfnppaaa.H Go.Proofs.YtejdjnfcfnppaaaW.PrintWords Go.Proofs.YtejdjnfcfnppaaaW.PrintLast

/-- How many numbers splices bring. -/
def brings (l : List S27) : Nat := (l.map fun s => s.f2.length).sum
theorem brings_cons (s : S27) (l : List S27) : brings (s :: l) = s.f2.length + brings l := by simp [brings]
theorem go_some (a : List Int) (l : List S27) : ∀ (out : List Int) (at_ : Int), 0 ≤ at_ → at_ ≤ a.length → out.length + (a.length - at_.toNat) + brings l ≤ 17592186044416 → ∃ r e, delta_Apply.go a l out at_ = some (r, e) ∧ (e = 0 ∨ e = 240 ∧ r = []) := by
  induction l with
  | nil =>
    intro out at_ h0 h1 h
    refine ⟨out ++ a.drop at_.toNat, 0, ?_, .inl rfl⟩
    unfold delta_Apply.go
    rw [if_pos (by simp [brings] at h; omega)]
  | cons s l ih =>
    intro out at_ h0 h1 h
    rw [brings_cons] at h
    unfold delta_Apply.go
    by_cases hb : s.f0 < at_ ∨ s.f0 > (a.length : Int) ∨ s.f1 < 0 ∨ s.f1 > (a.length : Int) - s.f0
    · rw [if_pos hb]; exact ⟨_, _, rfl, .inr ⟨rfl, rfl⟩⟩
    · rw [if_neg hb, if_pos (by omega)]
      refine ih _ _ (by omega) (by omega) ?_
      simp only [List.length_append, List.length_drop, List.length_take]
      omega
/-- The last one lies within the list, behind all that was. -/
theorem go_last (a : List Int) (s : S27) (l : List S27) : ∀ (out : List Int) (at_ : Int) (r : List Int), delta_Apply.go a (l ++ [s]) out at_ = some (r, 0) → at_ ≤ s.f0 ∧ s.f0 ≤ a.length ∧ 0 ≤ s.f1 ∧ s.f1 ≤ (a.length : Int) - s.f0 := by
  induction l with
  | nil =>
    intro out at_ r h
    rw [List.nil_append] at h
    unfold delta_Apply.go at h
    by_cases hb : s.f0 < at_ ∨ s.f0 > (a.length : Int) ∨ s.f1 < 0 ∨ s.f1 > (a.length : Int) - s.f0
    · rw [if_pos hb] at h; simp at h
    · omega
  | cons t l ih =>
    intro out at_ r h
    rw [List.cons_append] at h
    unfold delta_Apply.go at h
    by_cases hb : t.f0 < at_ ∨ t.f0 > (a.length : Int) ∨ t.f1 < 0 ∨ t.f1 > (a.length : Int) - t.f0
    · rw [if_pos hb] at h; simp at h
    · rw [if_neg hb] at h
      split at h
      · have := ih _ _ _ h
        omega
      · cases h
/-- The list behind one splice. -/
def one (a : List Int) (s : S27) : List Int := a.take s.f0.toNat ++ s.f2 ++ a.drop (s.f0 + s.f1).toNat
theorem go_parts (a : List Int) (s : S27) (l : List S27) : ∀ (out : List Int) (at_ : Int) (r : List Int), 0 ≤ at_ → delta_Apply.go a (l ++ [s]) out at_ = some (r, 0) → delta_Apply.go (one a s) l out at_ = some (r, 0) := by
  induction l with
  | nil =>
    intro out at_ r h0 h
    obtain ⟨g1, g2, g3, g4⟩ := go_last a s [] out at_ r h
    rw [List.nil_append] at h
    unfold delta_Apply.go at h
    rw [if_neg (by omega)] at h
    split at h
    · rename_i hs
      unfold delta_Apply.go at h ⊢
      split at h
      · rename_i hs2
        simp only [List.length_append, List.length_drop, List.length_take] at hs2
        have hl : (one a s).length = s.f0.toNat + s.f2.length + (a.length - (s.f0 + s.f1).toNat) := by
          simp only [one, List.length_append, List.length_take, List.length_drop]; omega
        rw [if_pos (by rw [hl]; omega)]
        rw [← h]
        congr 2
        simp only [one]
        rw [List.drop_append_of_le_length (by simp only [List.length_append, List.length_take]; omega), List.drop_append_of_le_length (by rw [List.length_take]; omega)]
        simp only [List.append_assoc]
      · cases h
    · cases h
  | cons t l ih =>
    intro out at_ r h0 h
    have hl0 := go_last a s (t :: l) out at_ r h
    rw [List.cons_append] at h
    unfold delta_Apply.go at h ⊢
    by_cases hb : t.f0 < at_ ∨ t.f0 > (a.length : Int) ∨ t.f1 < 0 ∨ t.f1 > (a.length : Int) - t.f0
    · rw [if_pos hb] at h; simp at h
    · rw [if_neg hb] at h
      split at h
      · rename_i hs
        obtain ⟨g1, g2, g3, g4⟩ := go_last a s l _ _ _ h
        have hl : (one a s).length = s.f0.toNat + s.f2.length + (a.length - (s.f0 + s.f1).toNat) := by
          simp only [one, List.length_append, List.length_take, List.length_drop]; omega
        rw [if_neg (by omega), if_pos hs]
        have e : ((one a s).take t.f0.toNat) = a.take t.f0.toNat := by
          simp only [one]
          rw [List.append_assoc, List.take_append_of_le_length (by rw [List.length_take]; omega), List.take_take, Nat.min_eq_left (by omega)]
        rw [e]
        exact ih _ _ _ (by omega) h
      · cases h
/-- How long what comes out is. -/
def less (l : List S27) : Int := (l.map fun s => (s.f2.length : Int) - s.f1).sum
theorem go_length (a : List Int) (l : List S27) : ∀ (out : List Int) (at_ : Int) (r : List Int), 0 ≤ at_ → at_ ≤ a.length → delta_Apply.go a l out at_ = some (r, 0) → (r.length : Int) = out.length + a.length - at_ + less l + (0 : Int) ∧ ∀ s ∈ l, 0 ≤ s.f1 ∧ s.f1 ≤ a.length := by
  induction l with
  | nil =>
    intro out at_ r h0 h1 h
    unfold delta_Apply.go at h
    split at h
    · simp only [Option.some.injEq, Prod.mk.injEq, and_true] at h
      subst h
      refine ⟨?_, by simp⟩
      simp only [List.length_append, List.length_drop, less, List.map_nil, List.sum_nil]
      omega
    · cases h
  | cons s l ih =>
    intro out at_ r h0 h1 h
    unfold delta_Apply.go at h
    by_cases hb : s.f0 < at_ ∨ s.f0 > (a.length : Int) ∨ s.f1 < 0 ∨ s.f1 > (a.length : Int) - s.f0
    · rw [if_pos hb] at h; simp at h
    · rw [if_neg hb] at h
      split at h
      · obtain ⟨e, hall⟩ := ih _ _ _ (by omega) (by omega) h
        refine ⟨?_, fun t ht => ?_⟩
        · rw [e]
          simp only [List.length_append, List.length_drop, List.length_take, less, List.map_cons, List.sum_cons]
          omega
        · rcases List.mem_cons.1 ht with rfl | ht
          · omega
          · exact hall t ht
      · cases h
theorem rd_at (l : List S27) (i : Nat) (h : i < l.length) : rd_T27 l (i : Int) = l[i] := by
  simp [rd_T27, List.getD_eq_getElem?_getD, List.getElem?_eq_getElem h]
theorem total_l0 (l : List S27) (hl : l.length ≤ 2000) (hp : ∀ s ∈ l, s.f2.length ≤ 17592186044416) (d : Nat) : ∀ (k i : Nat) (n : Int), i ≤ l.length → l.length - i = d → d < k → 0 ≤ n → n + d * 17592186044417 ≤ 9223372036854775807 →
    glossatorlaw24_total.l0 k l n (i : Int) = some (n + (brings (l.drop i) : Int) + d) := by
  induction d with
  | zero =>
    intro k i n hi hd hk h0 hn
    obtain ⟨k, rfl⟩ : ∃ m, k = m + 1 := ⟨k - 1, by omega⟩
    simp only [glossatorlaw24_total.l0]
    rw [if_neg (by omega), List.drop_eq_nil_of_le (by omega)]
    simp [brings]
  | succ d ih =>
    intro k i n hi hd hk h0 hn
    obtain ⟨k, rfl⟩ : ∃ m, k = m + 1 := ⟨k - 1, by omega⟩
    have hlt : i < l.length := by omega
    have hf := hp l[i] (List.getElem_mem hlt)
    simp only [glossatorlaw24_total.l0]
    rw [if_pos (by omega), if_pos (by omega), if_pos (by omega), rd_at l i hlt, wrap_le (x := n + (l[i].f2.length : Int)) (by omega) (by omega), wrap_le (x := n + (l[i].f2.length : Int) + 1) (by omega) (by omega), wrap_le (x := (i : Int) + 1) (by omega) (by omega)]
    rw [show ((i : Int) + 1) = ((i + 1 : Nat) : Int) by omega, ih k (i + 1) _ (by omega) (by omega) (by omega) (by omega) (by omega)]
    rw [List.drop_eq_getElem_cons hlt, brings_cons]
    congr 1
    omega
theorem total_f (k : Nat) (a : List Int) (l : List S27) (ha : a.length ≤ 17592186044416) (hl : l.length ≤ 2000) (hp : ∀ s ∈ l, s.f2.length ≤ 17592186044416) (hk : l.length < k) : glossatorlaw24_total.f k a [] l = some ((a.length : Int) + brings l + l.length) := by
  unfold glossatorlaw24_total.f
  rw [wrap_le (by simp only [List.length_nil]; omega) (by simp only [List.length_nil]; omega)]
  have := total_l0 l hl hp l.length k 0 ((a.length : Int) + (([] : List Int).length : Int)) (by omega) (by omega) hk (by simp) (by simp; omega)
  simpa using this
theorem parts_l0 (l : List S27) (r : List Int) (hl : l.length ≤ 2000) (hp : ∀ s ∈ l, 0 ≤ s.f1 ∧ s.f1 ≤ 50000 ∧ s.f2.length ≤ 50000) (d : Nat) : ∀ (k i : Nat) (n : Int), i ≤ l.length → l.length - i = d → d < k → -100000 * (i : Int) - 1000000 ≤ n → n ≤ 100000 * (i : Int) + 1000000 →
    glossatorlaw24_DeltaParts.l0 k l r n (i : Int) = some ((r.length : Int) == n + less (l.drop i)) := by
  induction d with
  | zero =>
    intro k i n hi hd hk h0 hn
    obtain ⟨k, rfl⟩ : ∃ m, k = m + 1 := ⟨k - 1, by omega⟩
    simp only [glossatorlaw24_DeltaParts.l0]
    rw [if_neg (by omega), List.drop_eq_nil_of_le (by omega)]
    simp [less]
  | succ d ih =>
    intro k i n hi hd hk h0 hn
    obtain ⟨k, rfl⟩ : ∃ m, k = m + 1 := ⟨k - 1, by omega⟩
    have hlt : i < l.length := by omega
    obtain ⟨f1, f2, f3⟩ := hp l[i] (List.getElem_mem hlt)
    simp only [glossatorlaw24_DeltaParts.l0]
    rw [if_pos (by omega), if_pos (by omega), rd_at l i hlt, wrap_le (x := n - l[i].f1) (by omega) (by omega), wrap_le (x := n - l[i].f1 + (l[i].f2.length : Int)) (by omega) (by omega), wrap_le (x := (i : Int) + 1) (by omega) (by omega)]
    rw [show ((i : Int) + 1) = ((i + 1 : Nat) : Int) by omega, ih k (i + 1) _ (by omega) (by omega) (by omega) (by omega) (by omega)]
    have e : less (l.drop i) = ((l[i].f2.length : Int) - l[i].f1) + less (l.drop (i + 1)) := by
      rw [List.drop_eq_getElem_cons hlt]
      simp only [less, List.map_cons, List.sum_cons]
    rw [e]
    congr 2
    omega
theorem brings_mem (l : List S27) (s : S27) (h : s ∈ l) : s.f2.length ≤ brings l := by
  induction l with
  | nil => cases h
  | cons t l ih =>
    rw [brings_cons]
    rcases List.mem_cons.1 h with rfl | h
    · omega
    · have := ih h; omega
theorem j0_true (k : Nat) (a : List Int) (l : List S27) : glossatorlaw24_DeltaParts.j0 (k + 1) a l true = some true := by
  simp only [glossatorlaw24_DeltaParts.j0]
  rw [if_pos trivial]
theorem j0_bad (k : Nat) (a : List Int) (l : List S27) (h : delta_Apply.f a l = some ([], 240)) : glossatorlaw24_DeltaParts.j0 (k + 1) a l false = some true := by
  simp only [glossatorlaw24_DeltaParts.j0]
  rw [if_neg (by simp), h, Option.bind_some, if_neg (by decide), if_pos rfl]
  rfl
theorem j0_none (k : Nat) (a r : List Int) (h : delta_Apply.f a [] = some (r, 0)) (hs : glossatorref24_Same.f k r a = some true) : glossatorlaw24_DeltaParts.j0 (k + 1) a [] false = some true := by
  simp only [glossatorlaw24_DeltaParts.j0]
  rw [if_neg (by simp), h, Option.bind_some, if_pos rfl, if_pos (by rfl), hs, Option.bind_some]
theorem j0_good (k : Nat) (a r o : List Int) (l : List S27) (hl : l ≠ []) (hn : (l.length : Int) ≤ 2000) (h : delta_Apply.f a l = some (r, 0)) (h1 : delta_Apply.f a (l.drop (l.length - 1)) = some (o, 0)) (h2 : delta_Apply.f o (l.take (l.length - 1)) = some (r, 0))
    (hs : glossatorref24_Same.f (k + 1) r r = some true) (hc : glossatorlaw24_DeltaParts.l0 k l r (a.length : Int) 0 = some true) : glossatorlaw24_DeltaParts.j0 (k + 1 + 1) a l false = some true := by
  have hp : 0 < l.length := List.length_pos_iff.2 hl
  simp only [glossatorlaw24_DeltaParts.j0]
  rw [if_neg (by simp), h, Option.bind_some, if_pos rfl, if_neg (by omega), wrap_le (by omega) (by omega), if_pos (by omega), if_pos (by omega)]
  rw [show ((l.length : Int) - 1).toNat = l.length - 1 by omega, h1, Option.bind_some, h2, Option.bind_some, if_pos rfl, if_pos rfl, hs, Option.bind_some]
  simp only [glossatorlaw24_DeltaParts.j1]
  rw [if_neg (by simp), hc]
theorem j0_false (a : List Int) (l : List S27) (hl : l.length ≤ 2000) (ht : (a.length : Int) + brings l + l.length ≤ 50000) : ∃ K, ∀ k, K ≤ k → glossatorlaw24_DeltaParts.j0 k a l false = some true := by
  refine ⟨200000, fun k hk => ?_⟩
  obtain ⟨k, rfl⟩ : ∃ m, k = m + 1 + 1 := ⟨k - 2, by omega⟩
  obtain ⟨r, e, hr, he⟩ := go_some a l [] 0 (by omega) (by omega) (by simp; omega)
  rcases he with rfl | ⟨rfl, rfl⟩
  · obtain ⟨hlen, hall⟩ := go_length a l [] 0 r (by omega) (by omega) hr
    rcases List.eq_nil_or_concat l with rfl | ⟨i, s, rfl⟩
    · have er : r = a := by
        unfold delta_Apply.go at hr
        rw [if_pos (by simp; omega)] at hr
        simpa [eq_comm] using hr
      subst er
      exact j0_none _ r r hr (by rw [same_f r r (by omega) _ (by omega)]; simp)
    · rw [List.concat_eq_append] at hr hlen hall hl ht ⊢
      have hp := go_parts a s i [] 0 r (by omega) hr
      obtain ⟨g1, g2, g3, g4⟩ := go_last a s i [] 0 r hr
      have hsm : s.f2.length ≤ brings (i ++ [s]) := brings_mem _ _ (by simp)
      have hrl : r.length ≤ 50000 := by
        have : less (i ++ [s]) ≤ brings (i ++ [s]) := by
          have key : ∀ l : List S27, (∀ s ∈ l, 0 ≤ s.f1) → less l ≤ (brings l : Int) := by
            intro l
            induction l with
            | nil => intro _; simp [less, brings]
            | cons t l ih =>
              intro h
              have h1 := ih (fun s hs => h s (List.mem_cons_of_mem _ hs))
              have h2 := h t List.mem_cons_self
              rw [brings_cons]
              simp only [less, List.map_cons, List.sum_cons] at h1 ⊢
              omega
          exact key _ (fun s hs => (hall s hs).1)
        simp at hlen
        omega
      have h1 : delta_Apply.f a [s] = some (one a s, 0) := by
        unfold delta_Apply.f delta_Apply.go
        rw [if_neg (by omega), if_pos (by simp; omega)]
        unfold delta_Apply.go
        rw [if_pos (by simp only [List.length_append, List.length_nil, List.length_take, List.length_drop]; omega)]
        rfl
      refine j0_good k a r (one a s) (i ++ [s]) (by simp) (by omega) hr ?_ ?_ (by rw [same_f r r (by omega) _ (by omega)]; simp) ?_
      · rw [List.length_append, List.length_singleton, Nat.add_sub_cancel, List.drop_left]; exact h1
      · rw [List.length_append, List.length_singleton, Nat.add_sub_cancel, List.take_left]; exact hp
      · have := parts_l0 (i ++ [s]) r hl (fun t ht' => ⟨(hall t ht').1, by have := (hall t ht').2; omega, by have := brings_mem _ t ht'; omega⟩) _ k 0 (a.length : Int) (by omega) rfl (by omega) (by omega) (by omega)
        rw [List.drop_zero] at this
        rw [show ((0 : Nat) : Int) = (0 : Int) from rfl] at this
        rw [this, hlen]
        simp
  · exact j0_bad _ a l hr
theorem DeltaParts (a : List Int) (l : List S27) (ha : a.length * 8 ≤ 140737488351232) (_ : ∀ y ∈ a, (Lit.int .i64 y).wf = true) (_ : l.length * 40 ≤ 140737488351232) (hp : ∀ y ∈ l, P27 y) : ∃ k, glossatorlaw24_DeltaParts.f k a l = some true := by
  unfold glossatorlaw24_DeltaParts.f glossatorlaw24_awake.f
  simp only [Option.bind_some]
  by_cases hl : (l.length : Int) > 2000
  · exact ⟨1, by rw [if_pos trivial, if_pos hl, j0_true]⟩
  · have hpl : ∀ s ∈ l, s.f2.length ≤ 17592186044416 := fun s hs => by have := (hp s hs).2.2.1; omega
    by_cases ht : (a.length : Int) + brings l + l.length > 50000
    · obtain ⟨k, hk⟩ : ∃ k : Nat, l.length < k := ⟨_, Nat.lt_succ_self _⟩
      refine ⟨k + 1, ?_⟩
      rw [if_pos trivial, if_neg hl, total_f (k + 1) a l (by omega) (by omega) hpl (by omega), Option.bind_some, decide_eq_true ht, j0_true]
    · obtain ⟨K, hK⟩ := j0_false a l (by omega) (by omega)
      refine ⟨K + l.length + 1, ?_⟩
      rw [if_pos trivial, if_neg hl, total_f _ a l (by omega) (by omega) hpl (by omega), Option.bind_some, decide_eq_false ht, hK _ (by omega)]
end Go.Proofs.Ytejdjnfcfnppaaa.Pure
