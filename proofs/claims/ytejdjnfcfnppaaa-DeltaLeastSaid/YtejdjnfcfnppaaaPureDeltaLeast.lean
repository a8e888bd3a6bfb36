/- DeltaLeast, as a law of lists alone: of lists of at most 24 numbers each, no splice that comes to the same brings and takes away fewer numbers, nor as many with a greater start. -/
import Derived.Test.YtejdjnfcfnppaaaHxglossatorlaw24DeltaLeast
import Derived.Test.YtejdjnfcfnppaaaHDeltaPlain
namespace Go.Proofs.Ytejdjnfcfnppaaa.Pure
set_option linter.unusedVariables false
set_option linter.unusedSimpArgs false
open Go.RowKit Go.Proofs.Ytejdjnfcfnppaaa.H Go.Proofs.YtejdjnfcfnppaaaW.PrintWords Go.Proofs.YtejdjnfcfnppaaaW.PrintLast

theorem pre_max (a b : List Int) (n : Nat) (ha : n ≤ a.length) (hb : n ≤ b.length) (h : a.take n = b.take n) : n ≤ pre a b := by
  induction a generalizing b n with
  | nil => simp at ha; omega
  | cons x xs ih =>
    cases b with
    | nil => simp at hb; omega
    | cons y ys =>
      cases n with
      | zero => omega
      | succ n =>
        simp only [List.take_succ_cons, List.cons.injEq] at h
        have := ih ys n (by simpa using ha) (by simpa using hb) h.2
        simp only [pre, if_pos h.1]
        omega
theorem suf_max (a b : List Int) (n : Nat) (ha : n ≤ a.length) (hb : n ≤ b.length) (h : a.drop (a.length - n) = b.drop (b.length - n)) : n ≤ pre a.reverse b.reverse := by
  refine pre_max _ _ n (by simpa using ha) (by simpa using hb) ?_
  rw [List.take_reverse, List.take_reverse, h]
/-- The one splice is the least. -/
theorem least (a b : List Int) (start away brings : Nat) (h1 : start + away ≤ a.length) (h2 : start + brings ≤ b.length) (h3 : a.length + brings = b.length + away)
    (h : a.take start ++ (b.take (start + brings)).drop start ++ a.drop (start + away) = b) :
    start ≤ pre a b ∧ (a.length - pre a b - pre (a.drop (pre a b)).reverse (b.drop (pre a b)).reverse) + (b.length - pre a b - pre (a.drop (pre a b)).reverse (b.drop (pre a b)).reverse) ≤ away + brings := by
  have hs : start ≤ pre a b := by
    refine pre_max _ _ _ (by omega) (by omega) ?_
    have := congrArg (List.take start) h
    rw [List.append_assoc, List.take_append_of_le_length (by simp; omega), List.take_take, Nat.min_self] at this
    exact this
  refine ⟨hs, ?_⟩
  have ht : a.drop (start + away) = b.drop (start + brings) := by
    have := congrArg (List.drop (start + brings)) h
    have hl : (a.take start ++ (b.take (start + brings)).drop start).length = start + brings := by simp; omega
    rw [List.drop_left' hl] at this
    exact this
  obtain ⟨p1, p2⟩ := pre_le a b
  generalize pre a b = s at *
  have key : min (a.length - start - away) (min a.length b.length - s) ≤ pre (a.drop s).reverse (b.drop s).reverse := by
    generalize hm : min (a.length - start - away) (min a.length b.length - s) = m
    refine suf_max _ _ m (by simp; omega) (by simp; omega) ?_
    rw [List.drop_drop, List.drop_drop, List.length_drop, List.length_drop]
    have e1 : s + (a.length - s - m) = (start + away) + (a.length - start - away - m) := by omega
    have e2 : s + (b.length - s - m) = (start + brings) + (a.length - start - away - m) := by omega
    have f1 : ∀ (l : List Int) (i j : Nat), l.drop (i + j) = (l.drop i).drop j := fun l i j => by rw [List.drop_drop]
    rw [e1, e2, f1, f1 b, ht]
  omega
/-- A splice that lies within the list. -/
theorem apply_one (a d : List Int) (start away : Nat) (h1 : start + away ≤ a.length) (hd : a.length + d.length ≤ 1000) : delta_Apply.f a [⟨start, away, d⟩] = some (a.take start ++ d ++ a.drop (start + away), 0) := by
  unfold delta_Apply.f delta_Apply.go
  simp only []
  rw [if_neg (by omega), if_pos (by simp only [List.length_nil]; omega)]
  unfold delta_Apply.go
  rw [if_pos (by simp only [List.length_append, List.length_nil, List.length_take, List.length_drop]; omega)]
  congr 2

section
variable {a b : List Int} {s : S27} {size : Nat}
/-- What is known of the one splice. -/
def Known (a b : List Int) (s : S27) (size : Nat) : Prop := a.length ≤ 24 ∧ b.length ≤ 24 ∧ ∀ start away brings : Nat, start + away ≤ a.length → start + brings ≤ b.length → a.length + brings = b.length + away →
  a.take start ++ (b.take (start + brings)).drop start ++ a.drop (start + away) = b → (start : Int) ≤ s.f0 ∧ size ≤ away + brings
theorem j3_skip (start away : Nat) (x9 : Int) (hw : away ≤ 100) (h : Ev (fun k => glossatorlaw24_DeltaLeast.l1 k a b [s] size start ((away + 1 : Nat) : Int)) true) : Ev (fun k => glossatorlaw24_DeltaLeast.j3 k a b [s] size start away x9 true) true := by
  refine Ev.step (f := fun k => glossatorlaw24_DeltaLeast.l1 k a b [s] size start ((away + 1 : Nat) : Int)) (fun k => ?_) h
  simp only [glossatorlaw24_DeltaLeast.j3]
  rw [if_pos trivial, wrap_le (by omega) (by omega)]
  rfl
theorem j3_try (hK : Known a b s size) (start away brings : Nat) (h1 : start + away ≤ a.length) (h2 : start + brings ≤ b.length) (h3 : a.length + brings = b.length + away)
    (h : Ev (fun k => glossatorlaw24_DeltaLeast.l1 k a b [s] size start ((away + 1 : Nat) : Int)) true) : Ev (fun k => glossatorlaw24_DeltaLeast.j3 k a b [s] size start away brings false) true := by
  obtain ⟨ha, hb, hmin⟩ := hK
  obtain ⟨K, hk⟩ := h
  refine ⟨K + 200, fun k hkk => ?_⟩
  obtain ⟨k, rfl⟩ : ∃ m, k = m + 1 := ⟨k - 1, by omega⟩
  simp only [glossatorlaw24_DeltaLeast.j3]
  have hl : ((b.take (start + brings)).drop start).length = brings := by rw [List.length_drop, List.length_take]; omega
  have hnext : glossatorlaw24_DeltaLeast.l1 k a b [s] size start ((away + 1 : Nat) : Int) = some true := hk k (by omega)
  rw [if_neg (by simp), Option.bind_some, if_pos (by omega), wrap_le (by omega) (by omega), if_pos (by omega), if_pos (by omega)]
  rw [show ((start : Int) + (brings : Int)).toNat = start + brings by omega, Int.toNat_natCast, List.nil_append]
  rw [if_pos (by rw [hl, List.length_nil]; omega), apply_one a _ start away h1 (by rw [hl]; omega), Option.bind_some]
  rw [if_pos rfl, same_f _ _ (by simp only [List.length_append, hl, List.length_take, List.length_drop]; omega) _ (by simp only [List.length_append, hl, List.length_take, List.length_drop]; omega), Option.bind_some]
  rw [wrap_le (by omega) (by omega), wrap_le (by omega) (by omega)]
  by_cases e : a.take start ++ (b.take (start + brings)).drop start ++ a.drop (start + away) = b
  · obtain ⟨g1, g2⟩ := hmin start away brings h1 h2 h3 e
    rw [if_pos (by rw [decide_eq_true_eq]; exact e), if_neg (by omega)]
    have hr : rd_T27 [s] 0 = s := rfl
    rw [hr, if_pos (show (0 : Int) < (([s] : List S27).length : Int) by simp), if_neg (show ¬ (start : Int) > s.f0 by omega)]
    rw [show ((away : Int) + 1) = ((away + 1 : Nat) : Int) by omega, hnext]
    split <;> rfl
  · rw [if_neg (by rw [decide_eq_true_eq]; exact e), show ((away : Int) + 1) = ((away + 1 : Nat) : Int) by omega, hnext]
theorem l1_all (hK : Known a b s size) (start : Nat) (hs : start ≤ a.length) (h : Ev (fun k => glossatorlaw24_DeltaLeast.l0 k a b [s] size ((start + 1 : Nat) : Int)) true) (d : Nat) : ∀ away : Nat, a.length + 1 - start - away = d → away ≤ a.length + 1 - start →
    Ev (fun k => glossatorlaw24_DeltaLeast.l1 k a b [s] size start away) true := by
  have ha := hK.1
  have hb := hK.2.1
  induction d with
  | zero =>
    intro away hd hle
    refine Ev.step (f := fun k => glossatorlaw24_DeltaLeast.l0 k a b [s] size ((start + 1 : Nat) : Int)) (fun k => ?_) h
    simp only [glossatorlaw24_DeltaLeast.l1]
    rw [wrap_le (x := (a.length : Int) - start) (by omega) (by omega), if_neg (by omega), wrap_le (by omega) (by omega)]
    rfl
  | succ d ih =>
    intro away hd hle
    have next := ih (away + 1) (by omega) (by omega)
    by_cases hneg : (b.length : Int) - ((a.length : Int) - away) < 0
    · refine Ev.step (f := fun k => glossatorlaw24_DeltaLeast.j3 k a b [s] size start away ((b.length : Int) - ((a.length : Int) - away)) true) (fun k => ?_) (j3_skip start away _ (by omega) next)
      simp only [glossatorlaw24_DeltaLeast.l1]
      rw [wrap_le (x := (a.length : Int) - start) (by omega) (by omega), if_pos (by omega), wrap_le (x := (a.length : Int) - away) (by omega) (by omega), wrap_le (x := (b.length : Int) - ((a.length : Int) - away)) (by omega) (by omega), if_pos hneg]
    · obtain ⟨brings, hbr⟩ := Int.eq_ofNat_of_zero_le (Int.not_lt.1 hneg)
      by_cases hgt : (start : Int) + brings > b.length
      · refine Ev.step (f := fun k => glossatorlaw24_DeltaLeast.j3 k a b [s] size start away brings true) (fun k => ?_) (j3_skip start away _ (by omega) next)
        simp only [glossatorlaw24_DeltaLeast.l1]
        rw [wrap_le (x := (a.length : Int) - start) (by omega) (by omega), if_pos (by omega), wrap_le (x := (a.length : Int) - away) (by omega) (by omega), wrap_le (x := (b.length : Int) - ((a.length : Int) - away)) (by omega) (by omega), if_neg hneg, hbr, wrap_le (by omega) (by omega), decide_eq_true hgt]
      · refine Ev.step (f := fun k => glossatorlaw24_DeltaLeast.j3 k a b [s] size start away brings false) (fun k => ?_) (j3_try hK start away brings (by omega) (by omega) (by omega) next)
        simp only [glossatorlaw24_DeltaLeast.l1]
        rw [wrap_le (x := (a.length : Int) - start) (by omega) (by omega), if_pos (by omega), wrap_le (x := (a.length : Int) - away) (by omega) (by omega), wrap_le (x := (b.length : Int) - ((a.length : Int) - away)) (by omega) (by omega), if_neg hneg, hbr, wrap_le (by omega) (by omega), decide_eq_false hgt]
theorem l0_all (hK : Known a b s size) (d : Nat) : ∀ start : Nat, a.length + 1 - start = d → start ≤ a.length + 1 → Ev (fun k => glossatorlaw24_DeltaLeast.l0 k a b [s] size start) true := by
  have ha := hK.1
  induction d with
  | zero =>
    intro start hd hle
    refine Ev.step (f := fun _ => some true) (fun k => ?_) (Ev.now true)
    simp only [glossatorlaw24_DeltaLeast.l0]
    rw [if_neg (by omega)]
  | succ d ih =>
    intro start hd hle
    refine Ev.step (f := fun k => glossatorlaw24_DeltaLeast.l1 k a b [s] size start ((0 : Nat) : Int)) (fun k => ?_) (l1_all hK start (by omega) (ih (start + 1) (by omega) (by omega)) _ 0 rfl (by omega))
    simp only [glossatorlaw24_DeltaLeast.l0]
    rw [if_pos (by omega)]
    rfl
end
theorem j0_true (a b : List Int) : Ev (fun k => glossatorlaw24_DeltaLeast.j0 k a b true) true :=
  Ev.step (f := fun _ => some true) (fun k => by simp only [glossatorlaw24_DeltaLeast.j0]; rw [if_pos trivial]) (Ev.now true)
theorem j0_false (a b : List Int) (ha : a.length ≤ 24) (hb : b.length ≤ 24) : Ev (fun k => glossatorlaw24_DeltaLeast.j0 k a b false) true := by
  have hE : delta_Edits.f a b = if a.length - pre a b + (b.length - pre a b) = 0 then some [] else some [⟨pre a b, ((a.length - pre a b : Nat) : Int) - (pre (a.drop (pre a b)).reverse (b.drop (pre a b)).reverse : Nat), (b.drop (pre a b)).take (b.length - pre a b - pre (a.drop (pre a b)).reverse (b.drop (pre a b)).reverse)⟩] := by
    unfold delta_Edits.f
    rw [if_pos ⟨by omega, by omega⟩]
  by_cases hz : a.length - pre a b + (b.length - pre a b) = 0
  · rw [if_pos hz] at hE
    have e : a = b := by
      obtain ⟨p1, p2⟩ := pre_le a b
      have htk := drop_pre a b
      have h1 : pre a b = a.length := by omega
      have h2 : pre a b = b.length := by omega
      rw [h1, List.take_length, ← h1, h2, List.take_length] at htk
      exact htk
    refine ⟨100, fun k hk => ?_⟩
    obtain ⟨k, rfl⟩ : ∃ m, k = m + 1 := ⟨k - 1, by omega⟩
    simp only [glossatorlaw24_DeltaLeast.j0]
    rw [if_neg (by simp), hE, Option.bind_some, if_pos (by simp), same_f _ _ (by omega) _ (by omega), Option.bind_some]
    simp [e]
  · rw [if_neg hz] at hE
    obtain ⟨p1, p2⟩ := pre_le a b
    obtain ⟨q1, q2⟩ := pre_le (a.drop (pre a b)).reverse (b.drop (pre a b)).reverse
    simp only [List.length_reverse, List.length_drop] at q1 q2
    have hmin := least a b
    have hK : Known a b ⟨pre a b, ((a.length - pre a b : Nat) : Int) - (pre (a.drop (pre a b)).reverse (b.drop (pre a b)).reverse : Nat), (b.drop (pre a b)).take (b.length - pre a b - pre (a.drop (pre a b)).reverse (b.drop (pre a b)).reverse)⟩
        ((a.length - pre a b - pre (a.drop (pre a b)).reverse (b.drop (pre a b)).reverse) + (b.length - pre a b - pre (a.drop (pre a b)).reverse (b.drop (pre a b)).reverse)) :=
      ⟨ha, hb, fun start away brings g1 g2 g3 g => ⟨by have := (hmin start away brings g1 g2 g3 g).1; simpa using this, (hmin start away brings g1 g2 g3 g).2⟩⟩
    refine Ev.step (fun k => ?_) (l0_all hK _ 0 rfl (by omega))
    simp only [glossatorlaw24_DeltaLeast.j0]
    rw [if_neg (by simp), hE, Option.bind_some, if_neg (by simp), if_pos (by simp), if_pos (by simp)]
    have hr : ∀ s : S27, rd_T27 [s] 0 = s := fun _ => rfl
    rw [hr]
    simp only [List.length_take, List.length_drop]
    rw [wrap_le (by omega) (by omega)]
    congr 1
    omega
theorem DeltaLeast : glossatorlaw24_DeltaLeast.Pure := by
  intro a b _ ha _ _ hb _
  have : Ev (fun k => glossatorlaw24_DeltaLeast.f k a b) true := by
    by_cases h1 : (a.length : Int) > 24
    · refine Ev.congr (f := fun k => glossatorlaw24_DeltaLeast.j0 k a b true) (fun k => ?_) (j0_true a b)
      unfold glossatorlaw24_DeltaLeast.f glossatorlaw24_awake.f
      rw [Option.bind_some, if_pos rfl, if_pos h1]
    · by_cases h2 : (b.length : Int) > 24
      · refine Ev.congr (f := fun k => glossatorlaw24_DeltaLeast.j0 k a b true) (fun k => ?_) (j0_true a b)
        unfold glossatorlaw24_DeltaLeast.f glossatorlaw24_awake.f
        rw [Option.bind_some, if_pos rfl, if_neg h1, decide_eq_true h2]
      · refine Ev.congr (f := fun k => glossatorlaw24_DeltaLeast.j0 k a b false) (fun k => ?_) (j0_false a b (by omega) (by omega))
        unfold glossatorlaw24_DeltaLeast.f glossatorlaw24_awake.f
        rw [Option.bind_some, if_pos rfl, if_neg h1, decide_eq_false h2]
  exact this.rounds
end Go.Proofs.Ytejdjnfcfnppaaa.Pure
