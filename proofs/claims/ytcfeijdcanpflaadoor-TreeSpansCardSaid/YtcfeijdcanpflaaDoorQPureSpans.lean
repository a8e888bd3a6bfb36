/- Spans of kids fill their parent's: what the law's stack goes through, of lists alone. -/
import Derived.Test.YtcfeijdcanpflaaDoorQPureAround
set_option linter.unusedVariables false
set_option linter.unusedSimpArgs false
namespace Go.Proofs.YtcfeijdcanpflaaDoor.H
open Go.RowKit Go.Proofs.YtcfeijdcanpflaaDoorW.PrintWords Go.Proofs.YtcfeijdcanpflaaDoorW.PrintLast Go.Proofs.YtcfeijdcanpflaaDoorW.PrintMore
abbrev Op3 := Int × Int × Int
def popS : List Op3 → Option (List Op3)
  | [] => some []
  | o :: st => if o.1 = 0 then (if o.2.1 = o.2.2 then popS st else none) else some (o :: st)
def headS (first : Bool) (st : List Op3) (f t : Int) : Option (List Op3) :=
  if first then (if f = 0 then some st else none) else match st with
    | [] => none
    | o :: r => if o.2.1 = f ∧ t ≤ o.2.2 then some ((wrap64 (o.1 - 1), t, o.2.2) :: r) else none
def stepS (first : Bool) (st : List Op3) (x : S25 × Int × Int) : Option (List Op3) :=
  (headS first st x.2.1 (wrap64 (x.2.1 + x.1.f2))).bind fun s => if wrap64 (wrap64 (x.2.1 + x.1.f2) - x.2.1) = x.1.f2 then popS (((x.1.f3.length : Int), (if x.1.f0 ≤ 50 then wrap64 (x.2.1 + x.1.f2) else x.2.1), wrap64 (x.2.1 + x.1.f2)) :: s) else none
def runS : Bool → List Op3 → List (S25 × Int × Int) → Option (List Op3)
  | _, st, [] => some st
  | b, st, x :: xs => (stepS b st x).bind fun s => runS false s xs
theorem run_append : ∀ (xs ys : List (S25 × Int × Int)) (b : Bool) (st : List Op3), runS b st (xs ++ ys) = (runS b st xs).bind fun s => runS (b && xs.isEmpty) s ys
  | [], ys, b, st => by simp [runS]
  | x :: xs, ys, b, st => by
    simp only [List.cons_append, runS]
    cases h : stepS b st x with
    | none => rfl
    | some s => simp [run_append xs ys false s]
theorem pop_zero (a : Int) (st : List Op3) : popS ((0, a, a) :: st) = popS st := by simp [popS]
theorem pop_some (n a t : Int) (st : List Op3) (h : n ≠ 0) : popS ((n, a, t) :: st) = some ((n, a, t) :: st) := by simp [popS, h]
theorem step_node {k w wd : Int} {l : List S25} {f d : Int} {b : Bool} {st s : List Op3} (hg : goodT ⟨k, w, wd, l⟩) (h0 : 0 ≤ f) (h1 : f + wd ≤ 1099511627776) (hh : headS b st f (f + wd) = some s) :
    stepS b st (⟨k, w, wd, l⟩, f, d) = if l = [] then popS s else some (((l.length : Int), f, f + wd) :: s) := by
  simp only [goodT] at hg
  obtain ⟨⟨g0, g1⟩, g2, g3, g4, g5⟩ := hg
  have hw : wrap64 (f + wd) = f + wd := wrap_id (by omega) (by omega)
  have hw2 : wrap64 (f + wd - f) = wd := by rw [wrap_id (by omega) (by omega)]; omega
  unfold stepS
  simp only [hw, hh, Option.bind_some, hw2, if_true]
  by_cases hl : l = []
  · subst hl
    simp only [List.length_nil, if_true]
    by_cases hk : k ≤ 50
    · rw [if_pos hk]; exact pop_zero _ _
    · have := g3 (by omega)
      simp only [wsum] at this
      rw [if_neg hk, show f + wd = f by omega]
      exact pop_zero _ _
  · have hk : ¬ k ≤ 50 := fun h => hl (g2 h)
    rw [if_neg hl, if_neg hk, pop_some _ _ _ _ (by have : l.length ≠ 0 := fun h => hl (List.eq_nil_of_length_eq_zero h); omega)]
mutual
theorem run_T : ∀ (t : S25) (f d n to_ : Int) (st : List Op3), goodT t → tsize t ≤ 2000000 → 0 ≤ f → f + t.f2 ≤ 1099511627776 → 1 ≤ n → n ≤ 4000000 → f + t.f2 ≤ to_ →
    runS false ((n, f, to_) :: st) (preT t f d) = popS ((n - 1, f + t.f2, to_) :: st)
  | ⟨k, w, wd, l⟩, f, d, n, to_, st, hg, hs, h0, h1, hn, hn2, ht => by
    simp only at h1 ht
    have hg' := hg
    simp only [goodT] at hg'
    simp only [tsize] at hs
    obtain ⟨⟨g0, g1⟩, g2, g3, g4, g5⟩ := hg'
    have hh : headS false ((n, f, to_) :: st) f (f + wd) = some ((n - 1, f + wd, to_) :: st) := by
      simp only [headS, Bool.false_eq_true, if_false, true_and, if_pos ht]
      rw [wrap_id (by omega) (by omega)]
    simp only [preT, runS]
    rw [step_node (st := (n, f, to_) :: st) hg h0 h1 hh]
    by_cases hl : l = []
    · subst hl
      rw [if_pos rfl]
      simp only [preTL]
      cases hp : popS ((n - 1, f + wd, to_) :: st) with
      | none => rfl
      | some s => simp [runS]
    · rw [if_neg hl, Option.bind_some]
      have hk : 50 < k := by
        rcases Int.lt_or_le 50 k with h | h
        · exact h
        · exact absurd (g2 h) hl
      have hw := g3 hk
      rw [run_L l f d (f + wd) _ hl g5 (by omega) h0 (by omega) (by omega), hw]
      exact pop_zero _ _
theorem run_L : ∀ (l : List S25) (f d to_ : Int) (st : List Op3), l ≠ [] → goodL l → lsize l ≤ 2000000 → 0 ≤ f → f + wsum l ≤ 1099511627776 → f + wsum l ≤ to_ →
    runS false (((l.length : Int), f, to_) :: st) (preTL l f d) = popS ((0, f + wsum l, to_) :: st)
  | [], f, d, to_, st, h, _, _, _, _, _ => absurd rfl h
  | t :: r, f, d, to_, st, _, hg, hs, h0, h1, ht => by
    simp only [goodL] at hg
    simp only [lsize] at hs
    simp only [wsum] at h1 ht ⊢
    have hw := hg.1.w
    have hr := wsum_nonneg r hg.2
    have hlr := length_lsize r
    simp only [preTL]
    rw [run_append, run_T t f (wrap64 (d + 1)) _ to_ st hg.1 (by omega) h0 (by omega) (by simp only [List.length_cons]; omega) (by simp only [List.length_cons]; omega) (by omega), wrap_id (x := f + t.f2) (by omega) (by omega)]
    by_cases hr0 : r = []
    · subst hr0
      simp only [preTL, wsum, List.length_cons, List.length_nil]
      rw [show ((0 + 1 : Nat) : Int) - 1 = 0 by omega, show f + (t.f2 + 0) = f + t.f2 by omega]
      cases hp : popS ((0, f + t.f2, to_) :: st) with
      | none => rfl
      | some s => simp [runS]
    · have hne : ((r.length + 1 : Nat) : Int) - 1 ≠ 0 := by
        have : r.length ≠ 0 := fun h => hr0 (List.eq_nil_of_length_eq_zero h)
        omega
      rw [List.length_cons, pop_some _ _ _ _ hne, Option.bind_some, show ((r.length + 1 : Nat) : Int) - 1 = (r.length : Int) by omega, Bool.false_and, run_L r (f + t.f2) d to_ st hr0 hg.2 (by omega) (by omega) (by omega) (by omega)]
      rw [show f + t.f2 + wsum r = f + (t.f2 + wsum r) by omega]
end
theorem run_all {t : S25} (hb : byteT t) (hs : tsize t ≤ 2000000) : runS true [] (allT t) = some [] := by
  unfold allT
  cases ho : okB t with
  | false => rfl
  | true =>
    rw [if_pos rfl]
    have hg := ok_good t hb ho
    obtain ⟨k, w, wd, l⟩ := t
    have hg' := hg
    simp only [goodT] at hg'
    simp only [tsize] at hs
    obtain ⟨⟨g0, g1⟩, g2, g3, g4, g5⟩ := hg'
    simp only [preT, runS]
    rw [step_node (s := []) hg (by omega) (by omega) (by simp [headS])]
    by_cases hl : l = []
    · subst hl
      rw [if_pos rfl]
      simp [popS, preTL, runS]
    · rw [if_neg hl, Option.bind_some]
      have hk : 50 < k := by
        rcases Int.lt_or_le 50 k with h | h
        · exact h
        · exact absurd (g2 h) hl
      have hw := g3 hk
      rw [run_L l 0 0 (0 + wd) [] hl g5 (by omega) (by omega) (by omega) (by omega), hw, pop_zero]
      rfl
theorem run_prefix {t : S25} (hb : byteT t) (hs : tsize t ≤ 2000000) {xs : List (S25 × Int × Int)} (h : xs <+: allT t) : ∃ s, runS true [] xs = some s := by
  obtain ⟨ys, hy⟩ := h
  have := run_all hb hs
  rw [← hy, run_append] at this
  cases hx : runS true [] xs with
  | none => rw [hx] at this; cases this
  | some s => exact ⟨s, rfl⟩
theorem pop_length : ∀ (st s : List Op3), popS st = some s → s.length ≤ st.length
  | [], s, h => by simp [popS] at h; subst h; exact Nat.le_refl _
  | o :: st, s, h => by
    simp only [popS] at h
    split at h
    · split at h
      · have := pop_length st s h; simp; omega
      · cases h
    · injection h with h; subst h; exact Nat.le_refl _
theorem step_length {b : Bool} {st s : List Op3} {x : S25 × Int × Int} (h : stepS b st x = some s) : s.length ≤ st.length + 1 := by
  unfold stepS at h
  cases hh : headS b st x.2.1 (wrap64 (x.2.1 + x.1.f2)) with
  | none => rw [hh] at h; cases h
  | some s1 =>
    rw [hh, Option.bind_some] at h
    have h1 : s1.length = st.length := by
      unfold headS at hh
      split at hh
      · split at hh
        · injection hh with hh; subst hh; rfl
        · cases hh
      · split at hh
        · cases hh
        · split at hh
          · injection hh with hh; subst hh; simp
          · cases hh
    split at h
    · have := pop_length _ _ h; simp at this; omega
    · cases h
theorem run_length : ∀ (xs : List (S25 × Int × Int)) (b : Bool) (st s : List Op3), runS b st xs = some s → s.length ≤ st.length + xs.length
  | [], b, st, s, h => by simp [runS] at h; subst h; simp
  | x :: xs, b, st, s, h => by
    simp only [runS] at h
    cases hx : stepS b st x with
    | none => rw [hx] at h; cases h
    | some s1 =>
      rw [hx, Option.bind_some] at h
      have := run_length xs false s1 s h
      have := step_length hx
      simp only [List.length_cons]
      omega
theorem run_snoc {xs : List (S25 × Int × Int)} {x : S25 × Int × Int} {st s : List Op3} (h0 : runS true [] xs = some st) (h : runS true [] (xs ++ [x]) = some s) : stepS xs.isEmpty st x = some s := by
  rw [run_append, h0, Option.bind_some, Bool.true_and] at h
  simp only [runS] at h
  cases hx : stepS xs.isEmpty st x with
  | none => rw [hx] at h; cases h
  | some s1 => rw [hx] at h; simpa using h
end Go.Proofs.YtcfeijdcanpflaaDoor.H
