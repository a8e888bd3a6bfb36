/- Plain laws of layer 24: of whether two lists are the same, of how many numbers there are, of what differs and of splices. No memory and no program. -/
import Derived.Test.YtejdjnfcfnppaaaHDeltaApply
import Derived.Test.YtejdjnfcfnppaaaHDeltaEdits
import Derived.Test.YtejdjnfcfnppaaaHxglossatorref24Same
import Derived.Test.YtejdjnfcfnppaaaHxglossatorlaw24total
namespace Go.Proofs.Ytejdjnfcfnppaaa.H
open Go.RowKit Go.Proofs.YtejdjnfcfnppaaaW.PrintWords Go.Proofs.YtejdjnfcfnppaaaW.PrintLast Go.Proofs.YtejdjnfcfnppaaaW.PrintMore

theorem wrap_le {x : Int} (h0 : -9223372036854775808 ≤ x) (h1 : x ≤ 9223372036854775807) : wrap64 x = x := by unfold wrap64; omega

theorem same_l0 (a b : List Int) (hl : a.length = b.length) (hm : a.length ≤ 9223372036854775807) (d : Nat) : ∀ (k i : Nat), i ≤ a.length → a.length - i = d → d < k →
    glossatorref24_Same.l0 k a b (i : Int) = some (decide (a.drop i = b.drop i)) := by
  induction d with
  | zero =>
    intro k i hi hd hk
    obtain ⟨k, rfl⟩ : ∃ m, k = m + 1 := ⟨k - 1, by omega⟩
    simp only [glossatorref24_Same.l0]
    rw [if_neg (by omega), List.drop_eq_nil_of_le (by omega), List.drop_eq_nil_of_le (by omega)]
    simp
  | succ d ih =>
    intro k i hi hd hk
    obtain ⟨k, rfl⟩ : ∃ m, k = m + 1 := ⟨k - 1, by omega⟩
    simp only [glossatorref24_Same.l0]
    rw [if_pos (by omega), if_pos (by omega), if_pos (by omega), wrap_le (by omega) (by omega)]
    have ha : i < a.length := by omega
    have hb : i < b.length := by omega
    have ea : rd a i = a[i] := by simp [rd, List.getD_eq_getElem?_getD, List.getElem?_eq_getElem ha]
    have eb : rd b i = b[i] := by simp [rd, List.getD_eq_getElem?_getD, List.getElem?_eq_getElem hb]
    rw [ea, eb, List.drop_eq_getElem_cons ha, List.drop_eq_getElem_cons hb]
    by_cases e : a[i] = b[i]
    · rw [if_pos e]
      have := ih k (i + 1) (by omega) (by omega) (by omega)
      rw [show ((i : Int) + 1) = ((i + 1 : Nat) : Int) by omega, this]
      congr 1
      rw [decide_eq_decide, e]
      exact ⟨fun h => by rw [h], fun h => (List.cons.inj h).2⟩
    · rw [if_neg e]
      congr 1
      symm
      rw [decide_eq_false_iff_not]
      exact fun h => e (List.cons.inj h).1
theorem same_f (a b : List Int) (hm : a.length ≤ 9223372036854775807) (k : Nat) (hk : a.length < k) : glossatorref24_Same.f k a b = some (decide (a = b)) := by
  unfold glossatorref24_Same.f
  by_cases hl : a.length = b.length
  · rw [if_pos (by omega)]
    have := same_l0 a b hl hm a.length k 0 (by omega) (by omega) (by omega)
    simpa using this
  · rw [if_neg (by omega)]
    have : a ≠ b := fun h => hl (by rw [h])
    simp [this]

/-- Applying what two lists differ in. -/
theorem drop_pre (a b : List Int) : a.take (pre a b) = b.take (pre a b) := by
  induction a generalizing b with
  | nil => cases b <;> simp [pre]
  | cons x xs ih =>
    cases b with
    | nil => simp [pre]
    | cons y ys =>
      by_cases e : x = y
      · subst e; simp [pre, ih ys]
      · simp [pre, e]
theorem pre_rev (a b : List Int) : a.drop (a.length - pre a.reverse b.reverse) = b.drop (b.length - pre a.reverse b.reverse) := by
  have h := drop_pre a.reverse b.reverse
  have ha := (pre_le a.reverse b.reverse).1
  have hb := (pre_le a.reverse b.reverse).2
  rw [List.length_reverse] at ha hb
  rw [List.take_reverse, List.take_reverse] at h
  exact List.reverse_inj.1 h

theorem apply_edits (a b : List Int) (hl : a.length + b.length ≤ 17592186044416) {l : List S27} (h : delta_Edits.f a b = some l) : delta_Apply.f a l = some (b, 0) := by
  unfold delta_Edits.f at h
  rw [if_pos ⟨by omega, by omega⟩] at h
  obtain ⟨hpa, hpb⟩ := pre_le a b
  have htk := drop_pre a b
  by_cases hz : a.length - pre a b + (b.length - pre a b) = 0
  · rw [if_pos hz] at h
    obtain rfl := Option.some.inj h
    have e : a = b := by
      have h1 : pre a b = a.length := by omega
      have h2 : pre a b = b.length := by omega
      rw [h1, List.take_length, ← h1, h2, List.take_length] at htk
      exact htk
    subst e
    unfold delta_Apply.f delta_Apply.go
    rw [if_pos (by simp; omega)]
    simp
  · rw [if_neg hz] at h
    obtain rfl := Option.some.inj h
    generalize hs : pre a b = s at *
    have hrv := pre_rev (a.drop s) (b.drop s)
    obtain ⟨hea, heb⟩ := pre_le (a.drop s).reverse (b.drop s).reverse
    generalize he : pre (a.drop s).reverse (b.drop s).reverse = e at *
    simp only [List.length_reverse, List.length_drop] at hea heb hrv
    unfold delta_Apply.f delta_Apply.go
    simp only []
    rw [if_neg (by omega), if_pos (by simp only [List.length_nil, List.length_take, List.length_drop]; omega)]
    unfold delta_Apply.go
    rw [if_pos (by simp only [List.length_append, List.length_nil, List.length_take, List.length_drop]; omega)]
    congr 2
    rw [Int.toNat_natCast, show ((0 : Int).toNat) = 0 from rfl, List.drop_zero, List.nil_append, show ((s : Int) + (((a.length - s : Nat) : Int) - (e : Int))).toNat = s + (a.length - s - e) by omega, htk]
    rw [List.drop_drop, List.drop_drop] at hrv
    rw [hrv]
    rw [← List.drop_drop]
    rw [List.append_assoc, List.take_append_drop, List.take_append_drop]
end Go.Proofs.Ytejdjnfcfnppaaa.H
