/- DeltaTells: what the chapter's definition answers is what the fast one does. Lists alone. -/
import Derived.Test.YtejdjnfcfnppaaaHDeltaTells
import Derived.Test.YtejdjnfcfnppaaaHDeltaPlain
set_option linter.unusedVariables false
set_option linter.unusedSimpArgs false
set_option linter.unusedSectionVars false
namespace Go.Proofs.Ytejdjnfcfnppaaa.Pure
open Go.RowKit Go.Proofs.Ytejdjnfcfnppaaa.H Go.Proofs.YtejdjnfcfnppaaaW.PrintWords Go.Proofs.YtejdjnfcfnppaaaW.PrintLast

theorem rd_drop (a : List Int) (s i : Nat) : rd (a.drop s) (i : Int) = rd a ((s + i : Nat) : Int) := by
  simp only [rd, Int.toNat_natCast]
  rw [List.getD_eq_getElem?_getD, List.getD_eq_getElem?_getD, List.getElem?_drop]
theorem rd_back (a : List Int) (s j : Nat) (hj : j < a.length - s) : rd (a.drop s).reverse (j : Int) = rd a ((a.length : Int) - j - 1) := by
  rw [rd_rev (a.drop s) j (by simp; omega), rd_drop, List.length_drop]
  congr 1
  omega
section
variable (a b : List Int) (s P : Nat) (hs : s ≤ a.length ∧ s ≤ b.length) (ha : a.length ≤ 1000000) (hb : b.length ≤ 1000000) (hP : P = pre (a.drop s).reverse (b.drop s).reverse)
include hs ha hb hP
theorem back_facts : P ≤ a.length - s ∧ P ≤ b.length - s ∧ (∀ j : Nat, j < P → rd a ((a.length : Int) - j - 1) = rd b ((b.length : Int) - j - 1)) ∧ (P < a.length - s → P < b.length - s → rd a ((a.length : Int) - P - 1) ≠ rd b ((b.length : Int) - P - 1)) := by
  have h0 := pre_le (a.drop s).reverse (b.drop s).reverse
  have h1 := pre_R (a.drop s).reverse (b.drop s).reverse
  rw [← hP] at h0 h1
  simp only [List.length_reverse, List.length_drop] at h0 h1
  refine ⟨h0.1, h0.2, fun j hj => ?_, fun g1 g2 => ?_⟩
  · have := h1.2.1 j hj
    rw [beq_iff_eq, rd_back a s j (by omega), rd_back b s j (by omega)] at this
    exact this
  · have := h1.2.2 (by omega)
    rw [beq_eq_false_iff_ne, rd_back a s P (by omega), rd_back b s P (by omega)] at this
    exact this
theorem ref_l1 (d : Nat) : ∀ (k p : Nat), p ≤ P → P - p = d → d < k → glossatorref24_Edits.l1 k a b s ((a.length : Int) - p) ((b.length : Int) - p) = some [⟨s, (a.length : Int) - P - s, (b.take (b.length - P)).drop s⟩] := by
  obtain ⟨f1, f2, f3, f4⟩ := back_facts a b s P hs ha hb hP
  have fin : (some (([] : List Int) : List Int)).bind (fun y249 => (if 0 ≤ (s : Int) then (if (s : Int) ≤ ((b.length : Int) - P) then (if ((b.length : Int) - P) ≤ (b.length : Int) then (if y249.length + ((b.take ((b.length : Int) - P : Int).toNat).drop (s : Int).toNat).length < 17592186044416 then (some (([(⟨s, wrap64 (((a.length : Int) - P) - s), (y249 ++ ((b.take (((b.length : Int) - P) : Int).toNat).drop (s : Int).toNat))⟩ : S27)] : List (S27)))) else (none)) else (none)) else (none)) else (none))) = some [⟨s, (a.length : Int) - P - s, (b.take (b.length - P)).drop s⟩] := by
    rw [Option.bind_some, if_pos (by omega), if_pos (by omega), if_pos (by omega), show ((b.length : Int) - P).toNat = b.length - P by omega, Int.toNat_natCast, if_pos (by simp; omega), wrap_le (by omega) (by omega), List.nil_append]
  induction d with
  | zero =>
    intro k p hp hd hk
    obtain ⟨k, rfl⟩ : ∃ m, k = m + 1 := ⟨k - 1, by omega⟩
    obtain rfl : p = P := by omega
    simp only [glossatorref24_Edits.l1]
    by_cases c1 : (a.length : Int) - p > s
    · rw [if_pos c1]
      by_cases c2 : (b.length : Int) - p > s
      · rw [if_pos c2, wrap_le (x := (a.length : Int) - p - 1) (by omega) (by omega), wrap_le (x := (b.length : Int) - p - 1) (by omega) (by omega), if_pos (by omega), if_pos (by omega), if_pos (by omega), if_pos (by omega), if_neg (f4 (by omega) (by omega))]
        exact fin
      · rw [if_neg c2]; exact fin
    · rw [if_neg c1]; exact fin
  | succ d ih =>
    intro k p hp hd hk
    obtain ⟨k, rfl⟩ : ∃ m, k = m + 1 := ⟨k - 1, by omega⟩
    simp only [glossatorref24_Edits.l1]
    rw [if_pos (by omega), if_pos (by omega), wrap_le (x := (a.length : Int) - p - 1) (by omega) (by omega), wrap_le (x := (b.length : Int) - p - 1) (by omega) (by omega), if_pos (by omega), if_pos (by omega), if_pos (by omega), if_pos (by omega), if_pos (f3 p (by omega))]
    have := ih k (p + 1) (by omega) (by omega) (by omega)
    rw [show (a.length : Int) - p - 1 = (a.length : Int) - ((p + 1 : Nat) : Int) by omega, show (b.length : Int) - p - 1 = (b.length : Int) - ((p + 1 : Nat) : Int) by omega]
    exact this
end
theorem ref_l0 (a b : List Int) (ha : a.length ≤ 1000000) (hb : b.length ≤ 1000000) (r : List S27) (k0 : Nat) (hr : ∀ k, k0 ≤ k → glossatorref24_Edits.j1 k a b (pre a b : Nat) = some r) (d : Nat) : ∀ (k i : Nat), i ≤ pre a b → pre a b - i = d → d + k0 < k → glossatorref24_Edits.l0 k a b (i : Int) = some r := by
  have h0 := pre_le a b
  have h1 := pre_R a b
  induction d with
  | zero =>
    intro k i hi hd hk
    obtain ⟨k, rfl⟩ : ∃ m, k = m + 1 := ⟨k - 1, by omega⟩
    obtain rfl : i = pre a b := by omega
    have hj := hr k (by omega)
    simp only [glossatorref24_Edits.l0]
    by_cases c1 : ((pre a b : Nat) : Int) < (a.length : Int)
    · rw [if_pos c1]
      by_cases c2 : ((pre a b : Nat) : Int) < (b.length : Int)
      · have := h1.2.2 (by omega)
        rw [beq_eq_false_iff_ne] at this
        rw [if_pos c2, if_pos (by omega), if_neg this]; exact hj
      · rw [if_neg c2]; exact hj
    · rw [if_neg c1]; exact hj
  | succ d ih =>
    intro k i hi hd hk
    obtain ⟨k, rfl⟩ : ∃ m, k = m + 1 := ⟨k - 1, by omega⟩
    have := h1.2.1 i (by omega)
    rw [beq_iff_eq] at this
    simp only [glossatorref24_Edits.l0]
    rw [if_pos (by omega), if_pos (by omega), if_pos (by omega), if_pos this, wrap_le (by omega) (by omega)]
    exact ih k (i + 1) (by omega) (by omega) (by omega)
theorem pre_self (a b : List Int) (h : a.length - pre a b + (b.length - pre a b) = 0) : a = b := by
  have h0 := pre_le a b
  have h1 := drop_pre a b
  rwa [List.take_of_length_le (by omega), List.take_of_length_le (by omega)] at h1
theorem edits_ref (a b : List Int) (h : a.length + b.length ≤ 50000) : ∃ r, delta_Edits.f a b = some r ∧ r.length ≤ 1 ∧ (∀ s ∈ r, s.f2.length ≤ b.length) ∧ ∀ k, a.length + b.length + 5 < k → glossatorref24_Edits.f k a b = some r := by
  have h0 := pre_le a b
  unfold delta_Edits.f
  rw [if_pos ⟨by omega, by omega⟩]
  by_cases hz : a.length - pre a b + (b.length - pre a b) = 0
  · rw [if_pos hz]
    refine ⟨_, rfl, by simp, by simp, fun k hk => ?_⟩
    have e := pre_self a b hz
    subst e
    unfold glossatorref24_Edits.f
    rw [same_f a a (by omega) k (by omega), Option.bind_some, if_pos (by simp)]
  · rw [if_neg hz]
    obtain ⟨P, hP⟩ : ∃ P, P = pre (a.drop (pre a b)).reverse (b.drop (pre a b)).reverse := ⟨_, rfl⟩
    have hf := back_facts a b (pre a b) P h0 (by omega) (by omega) hP
    rw [← hP]
    refine ⟨_, rfl, by simp, ?_, fun k hk => ?_⟩
    · intro s hs
      rw [List.mem_singleton] at hs
      subst hs
      simp
      omega
    have hne : a ≠ b := by
      rintro rfl
      have : pre a a = a.length := by
        clear hz hP hf h h0 hk
        induction a with
        | nil => rfl
        | cons x xs ih => simp [pre, ih]
      omega
    unfold glossatorref24_Edits.f
    rw [same_f a b (by omega) k (by omega), Option.bind_some, if_neg (by simp [hne])]
    refine ref_l0 a b (by omega) (by omega) _ (a.length + 3) (fun k hk => ?_) (pre a b) k 0 (Nat.zero_le _) (by omega) (by omega)
    obtain ⟨k, rfl⟩ : ∃ m, k = m + 1 := ⟨k - 1, by omega⟩
    simp only [glossatorref24_Edits.j1]
    have := ref_l1 a b (pre a b) P h0 (by omega) (by omega) hP P k 0 (Nat.zero_le _) (by omega) (by omega)
    simp only [Int.natCast_zero, Int.sub_zero] at this
    rw [this, List.drop_take]
    congr 3
    · omega
    · congr 1; omega
theorem splices_refl (r : List S27) (hl : r.length ≤ 1000000) (M : Nat) (hm : M ≤ 1000000) (hr : ∀ s ∈ r, s.f2.length ≤ M) (d : Nat) : ∀ (k i : Nat), i ≤ r.length → r.length - i = d → d + M + 1 < k → glossatorref24_SameSplices.l0 k r r (i : Int) = some true := by
  induction d with
  | zero =>
    intro k i hi hd hk
    obtain ⟨k, rfl⟩ : ∃ m, k = m + 1 := ⟨k - 1, by omega⟩
    simp only [glossatorref24_SameSplices.l0]
    rw [if_neg (by omega)]
  | succ d ih =>
    intro k i hi hd hk
    obtain ⟨k, rfl⟩ : ∃ m, k = m + 1 := ⟨k - 1, by omega⟩
    simp only [glossatorref24_SameSplices.l0]
    have hi2 : i < r.length := by omega
    have e : rd_T27 r (i : Int) = r[i] := by simp [rd_T27, List.getD_eq_getElem?_getD, List.getElem?_eq_getElem hi2]
    have hm := hr r[i] (List.getElem_mem hi2)
    rw [if_pos (by omega), if_pos (by omega), if_pos (by omega), if_pos trivial, if_pos trivial, e, same_f _ _ (by omega) k (by omega), Option.bind_some, if_pos (by simp), wrap_le (by omega) (by omega)]
    exact ih k (i + 1) (by omega) (by omega) (by omega)
theorem splices_same (r : List S27) (hl : r.length ≤ 1000000) (M : Nat) (hm : M ≤ 1000000) (hr : ∀ s ∈ r, s.f2.length ≤ M) (k : Nat) (hk : r.length + M + 1 < k) : glossatorref24_SameSplices.f k r r = some true := by
  unfold glossatorref24_SameSplices.f
  rw [if_pos rfl]
  exact splices_refl r hl M hm hr r.length k 0 (by omega) (by omega) (by omega)
end Go.Proofs.Ytejdjnfcfnppaaa.Pure
namespace Go.Proofs.Ytejdjnfcfnppaaa.H
open Go.RowKit Go.Proofs.YtejdjnfcfnppaaaW.PrintWords Go.Proofs.YtejdjnfcfnppaaaW.PrintLast
/-- All that DeltaTells' walk asks. -/
def TellsFacts (k : Nat) (a b : List Int) (t : Bool) : Prop := t = true ∧ ∃ r : List S27, glossatorlaw24_total.f k a b [] = some ((a.length : Int) + (b.length : Int)) ∧
    (a.length + b.length ≤ 50000 → glossatorref24_Edits.f k a b = some r ∧ delta_Edits.f a b = some r ∧ glossatorref24_SameSplices.f k r r = some true ∧ glossatorref24_Same.f k a a = some true ∧ glossatorref24_Same.f k b b = some true ∧ r.length ≤ 1)
theorem glossatorlaw24_DeltaTells.calls (k : Nat) (A0 : Option Addr) (c0 : Nat) (l0 : List Int) (A1 : Option Addr) (c1 : Nat) (l1 : List Int) (t : Bool) (w : World) (hr0 : Kd.C (Kd.int .i64) w A0 l0.length l0) (hc0 : l0.length ≤ c0) (hr1 : Kd.C (Kd.int .i64) w A1 l1.length l1) (hc1 : l1.length ≤ c1) (h : TellsFacts k l0 l1 t) :
    Calls Try.prog 4 #[.slice A0 l0.length c0, .slice A1 l1.length c1] w fun e w' => e = .returned (.bool t) ∧ Below w.heap.size w w' := by
  obtain ⟨rfl, r, ht, h1⟩ := h
  exact tells_calls k A0 c0 l0 A1 c1 l1 w hr0 hc0 hr1 hc1 r ht h1
end Go.Proofs.Ytejdjnfcfnppaaa.H
namespace Go.Proofs.Ytejdjnfcfnppaaa.Pure
open Go.RowKit Go.Proofs.Ytejdjnfcfnppaaa.H Go.Proofs.YtejdjnfcfnppaaaW.PrintWords Go.Proofs.YtejdjnfcfnppaaaW.PrintLast
theorem DeltaTells (a b : List Int) (ha : a.length * 8 ≤ 140737488351232) (_ : ∀ y ∈ a, (Lit.int .i64 y).wf = true) (hb : b.length * 8 ≤ 140737488351232) (_ : ∀ y ∈ b, (Lit.int .i64 y).wf = true) : ∃ k : Nat, TellsFacts k a b true := by
  obtain ⟨k, hk⟩ : ∃ k : Nat, a.length + b.length + 10 < k := ⟨_, Nat.lt_succ_self _⟩
  have h1 : glossatorlaw24_total.f k a b [] = some ((a.length : Int) + (b.length : Int)) := by
    obtain ⟨k, rfl⟩ : ∃ m, k = m + 1 := ⟨k - 1, by omega⟩
    unfold glossatorlaw24_total.f
    simp only [glossatorlaw24_total.l0]
    rw [if_neg (by simp), wrap_le (by omega) (by omega)]
  by_cases h : a.length + b.length ≤ 50000
  · obtain ⟨r, e1, e2, e3, e4⟩ := edits_ref a b h
    exact ⟨k, rfl, r, h1, fun _ => ⟨e4 k (by omega), e1, splices_same r (by omega) b.length (by omega) e3 k (by omega), by rw [same_f a a (by omega) k (by omega)]; simp, by rw [same_f b b (by omega) k (by omega)]; simp, e2⟩⟩
  · exact ⟨k, rfl, [], h1, fun g => absurd g h⟩
end Go.Proofs.Ytejdjnfcfnppaaa.Pure
