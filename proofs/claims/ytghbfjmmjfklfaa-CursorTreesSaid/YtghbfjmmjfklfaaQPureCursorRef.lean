/- What the document's cursor asks: of, Next. -/
import Derived.Test.YtghbfjmmjfklfaaQHCursorNew
import Derived.Test.YtghbfjmmjfklfaaQHxglossatorref17of
import Derived.Test.YtghbfjmmjfklfaaQHxglossatorref12Next
set_option linter.unusedVariables false
set_option linter.unusedSimpArgs false
namespace Go.Proofs.Ytghbfjmmjfklfaa.H
open Go.RowKit Go.Proofs.YtghbfjmmjfklfaaW.PrintWords Go.Proofs.YtghbfjmmjfklfaaW.PrintLast Go.Proofs.YtghbfjmmjfklfaaW.PrintMore
theorem of_f (k w1 wd : Int) (l : List S27) (cl : Int) : glossatorref17_of.f 1 k w1 wd l cl = some (decide (cl ∈ clsN k)) := by
  unfold glossatorref17_of.f
  simp only [glossatorref17_of.j0]
  by_cases d1 : cl = 52
  · subst d1
    simp only [clsN]
    by_cases c1 : k = 52
    · subst c1; decide
    · by_cases c2 : k = 60
      · subst c2; decide
      · simp [c1, c2]
  by_cases d2 : cl = 60
  · subst d2
    simp only [clsN]
    by_cases c1 : k = 52
    · subst c1; decide
    · by_cases c2 : k = 60
      · subst c2; decide
      · simp [c1, c2]
  by_cases d3 : cl = 59
  · subst d3
    simp only [clsN]
    by_cases c1 : k = 53; · subst c1; decide
    by_cases c2 : k = 54; · subst c2; decide
    by_cases c3 : k = 56; · subst c3; decide
    by_cases c4 : k = 57; · subst c4; decide
    by_cases c5 : k = 58; · subst c5; decide
    by_cases c6 : k = 59; · subst c6; decide
    by_cases c7 : k = 52; · subst c7; decide
    by_cases c8 : k = 60; · subst c8; decide
    simp [c1, c2, c3, c4, c5, c6, c7, c8]
  have : cl ∉ clsN k := by
    unfold clsN
    split
    · simp [d3]
    · split
      · simp [d1, d3]
      · split
        · simp [d2]
        · simp
  simp [d1, d2, d3, this]
theorem counts12 (k : Int) (h0 : 0 ≤ k) : glossatorref12_Counts.f k = some (countsB k) := by
  unfold glossatorref12_Counts.f countsB triviaL
  by_cases c0 : k = 0; · subst c0; rfl
  by_cases c1 : k = 1; · subst c1; rfl
  by_cases c2 : k = 2; · subst c2; rfl
  by_cases c3 : k = 3; · subst c3; rfl
  by_cases c4 : k = 4; · subst c4; rfl
  by_cases c5 : k = 5; · subst c5; rfl
  by_cases c6 : k = 9; · subst c6; rfl
  simp only [if_neg c1, if_neg c2, if_neg c3, if_neg c4, if_neg c5, if_neg c6]
  have hn : ([0, 1, 2, 3, 4, 5, 9] : List Int).contains k = false := by simp [c0, c1, c2, c3, c4, c5, c6]
  rw [hn]
  unfold glossatorref12_Token.f
  rw [if_pos (show k ≥ 1 by omega)]
  by_cases d1 : k ≤ 17
  · have d2 : k ≤ 40 := by omega
    simp [d1, d2]
  · by_cases d2 : k ≥ 20
    · have d3 : (20 : Int) ≤ k := d2
      simp [d1, d3]
    · have d3 : ¬ (20 : Int) ≤ k := d2
      simp [d1, d3]
theorem next_bh (l : List S39) (hk : ∀ t ∈ l, 0 ≤ t.f0) (hl : l.length ≤ 1000000) (a : Nat) (ha : a ≤ l.length) : Ev (fun k => glossatorref12_Next.f k l a) (bh l a : Int) := by
  have hgo : ∀ (n i : Nat), l.length - i = n → i ≤ l.length → Ev (fun k => glossatorref12_Next.l0 k l a i) (bh l (max i a) : Int) := by
    intro n
    induction n with
    | zero =>
      intro i hn hi
      obtain rfl : i = l.length := by omega
      refine Ev.step (f := fun _ => some (l.length : Int)) (fun k => by rw [glossatorref12_Next.l0, if_neg (by omega)]) ?_
      rw [Nat.max_eq_left ha, bh_end]
      exact Ev.now _
    | succ n ih =>
      intro i hn hi
      have hlt : i < l.length := by omega
      have hnx := ih (i + 1) (by omega) (by omega)
      have hw : wrap64 ((i : Int) + 1) = ((i + 1 : Nat) : Int) := by rw [wrap_id (by omega) (by omega)]; rfl
      by_cases hia : a ≤ i
      · have hm : max i a = i := Nat.max_eq_left hia
        rw [Nat.max_eq_left (by omega)] at hnx
        rw [hm, bh_step l i hlt]
        have hf0 : 0 ≤ (rd_T39 l (i : Int)).f0 := by
          rw [show rd_T39 l (i : Int) = l[i] by unfold rd_T39; simp [List.getD_eq_getElem?_getD, List.getElem?_eq_getElem hlt]]
          exact hk _ (List.getElem_mem hlt)
        cases hb : countsB (rd_T39 l (i : Int)).f0 with
        | true => exact Ev.step (f := fun _ => some (i : Int)) (fun k => by rw [glossatorref12_Next.l0, if_pos (by omega), if_pos (by omega), if_pos (by omega), counts12 _ hf0, hb]; rfl) (by simpa using Ev.now (i : Int))
        | false => exact Ev.step (f := fun k => glossatorref12_Next.l0 k l a ((i + 1 : Nat) : Int)) (fun k => by rw [glossatorref12_Next.l0, if_pos (by omega), if_pos (by omega), if_pos (by omega), counts12 _ hf0, hb, hw]; rfl) (by simpa using hnx)
      · have hm : max i a = a := Nat.max_eq_right (by omega)
        rw [Nat.max_eq_right (by omega)] at hnx
        rw [hm]
        exact Ev.step (f := fun k => glossatorref12_Next.l0 k l a ((i + 1 : Nat) : Int)) (fun k => by rw [glossatorref12_Next.l0, if_pos (by omega), if_neg (by omega), hw]) hnx
  have := hgo l.length 0 rfl (Nat.zero_le _)
  rw [Nat.max_eq_right (Nat.zero_le _)] at this
  exact Ev.congr (fun m => by unfold glossatorref12_Next.f; rfl) this
end Go.Proofs.Ytghbfjmmjfklfaa.H
