/- Each node along the path to a place is around it (lists alone). -/
import Derived.Test.YtcfeijdcanpflaaDoorQHPrintPlain
import Derived.Test.YtcfeijdcanpflaaDoorQHTreeGet
set_option linter.unusedVariables false
set_option linter.unusedSimpArgs false
namespace Go.Proofs.YtcfeijdcanpflaaDoor.H
open Go.RowKit Go.Proofs.YtcfeijdcanpflaaDoorW.PrintWords Go.Proofs.YtcfeijdcanpflaaDoorW.PrintLast Go.Proofs.YtcfeijdcanpflaaDoorW.PrintMore
theorem wsum_nonneg : ∀ (l : List S25), goodL l → 0 ≤ wsum l
  | [], _ => by simp [wsum]
  | t :: r, h => by
    simp only [goodL] at h
    have := h.1.w
    have := wsum_nonneg r h.2
    simp only [wsum]
    omega
theorem sumFrom_wsum : ∀ (l : List S25) (x : Int), goodL l → 0 ≤ x → x + wsum l ≤ 1099511627776 → sumFrom x l = x + wsum l
  | [], x, _, _, _ => by simp [sumFrom, wsum]
  | t :: r, x, h, h0, h1 => by
    simp only [goodL] at h
    simp only [wsum] at h1 ⊢
    have hw := h.1.w
    have hr := wsum_nonneg r h.2
    simp only [sumFrom]
    rw [wrap_id (by omega) (by omega), sumFrom_wsum r (x + t.f2) h.2 (by omega) (by omega)]
    omega
theorem goodL_take : ∀ (l : List S25) (m : Nat), goodL l → goodL (l.take m) ∧ wsum (l.take m) ≤ wsum l
  | [], m, h => by simp [goodL, wsum]
  | t :: r, 0, h => by
    have := wsum_nonneg _ h
    simp only [List.take_zero, goodL, wsum, true_and]
    simp only [wsum] at this
    exact this
  | t :: r, m + 1, h => by
    have h2 := h
    simp only [goodL] at h2
    obtain ⟨a, b⟩ := goodL_take r m h2.2
    simp only [List.take_succ_cons, goodL, wsum]
    exact ⟨⟨h2.1, a⟩, by omega⟩
theorem at_split : ∀ (l : List S25) (i p : Int), goodL l → 0 ≤ p → p < wsum l → ∃ (m : Nat) (h : m < l.length), atL l i p = (i + m) :: atT l[m] (p - wsum (l.take m)) ∧ 0 ≤ p - wsum (l.take m) ∧ p - wsum (l.take m) < l[m].f2 ∧ wsum (l.take m) + l[m].f2 ≤ wsum l ∧ goodT l[m]
  | [], i, p, _, h0, h1 => by simp [wsum] at h1; omega
  | t :: r, i, p, hg, h0, h1 => by
    simp only [goodL] at hg
    simp only [wsum] at h1
    by_cases c : p ≥ t.f2
    · obtain ⟨m, hm, e, e0, e1, e2, e3⟩ := at_split r (i + 1) (p - t.f2) hg.2 (by omega) (by omega)
      refine ⟨m + 1, by simpa using hm, ?_, ?_, ?_, ?_, e3⟩
      · simp only [atL, if_pos c, e, List.getElem_cons_succ, List.take_succ_cons, wsum]
        rw [show p - t.f2 - wsum (List.take m r) = p - (t.f2 + wsum (List.take m r)) by omega]
        congr 1
        omega
      · simp only [List.take_succ_cons, wsum]; omega
      · simp only [List.take_succ_cons, wsum, List.getElem_cons_succ]; omega
      · simp only [List.take_succ_cons, wsum, List.getElem_cons_succ]; omega
    · have := wsum_nonneg r hg.2
      refine ⟨0, by simp, ?_, ?_, ?_, ?_, hg.1⟩
      · simp [atL, if_neg c, wsum]
      · simp [wsum]; omega
      · simp [wsum]; omega
      · simp [wsum]; omega
theorem wantL_get : ∀ (l : List S25) (m : Nat) (h : m < l.length), wantL l → wantT l[m]
  | [], m, h, _ => absurd h (Nat.not_lt_zero _)
  | t :: r, 0, h, hw => by simp only [wantL] at hw; exact hw.1
  | t :: r, m + 1, h, hw => by simp only [wantL] at hw; exact wantL_get r m (by simpa using h) hw.2
theorem lsize_get : ∀ (l : List S25) (m : Nat) (h : m < l.length), tsize l[m] ≤ lsize l
  | [], m, h => absurd h (Nat.not_lt_zero _)
  | t :: r, 0, h => by simp only [lsize, List.getElem_cons_zero]; omega
  | t :: r, m + 1, h => by have := lsize_get r m (by simpa using h); simp only [lsize, List.getElem_cons_succ]; omega
theorem around (z : Nat) : ∀ (t : S25) (x p : Int) (i : Nat), tsize t ≤ z → goodT t → wantT t → 0 ≤ x → 0 ≤ p → p < t.f2 → x + t.f2 ≤ 1099511627776 → i ≤ (atT t p).length →
    ∃ k w wd l f, getS x t ((atT t p).take i) = (k, w, wd, l, f, wrap64 (f + wd), true) ∧ f ≤ x + p ∧ x + p < f + wd ∧ f + wd ≤ 1099511627776 ∧ 0 ≤ f ∧ (i = (atT t p).length → k < 50 ∧ l = []) := by
  induction z with
  | zero => intro t x p i h; have := tsize_pos t; omega
  | succ z ih =>
    rintro ⟨k, w, wd, kids⟩ x p i hz hg hw hx h0 h1 h2 hi
    simp only at h1 h2
    have hg' := hg
    have hw' := hw
    simp only [goodT] at hg'
    simp only [wantT] at hw'
    obtain ⟨⟨g0, g1⟩, g2, g3, g4, g5⟩ := hg'
    obtain ⟨w1, w2, w3, w4⟩ := hw'
    by_cases hk : kids = []
    · subst hk
      have ea : atT ⟨k, w, wd, []⟩ p = [] := by simp [atT, atL]
      rw [ea] at hi ⊢
      simp only [List.length_nil, Nat.le_zero] at hi
      subst hi
      refine ⟨k, w, wd, [], x, rfl, by omega, by omega, by omega, hx, fun _ => ⟨?_, rfl⟩⟩
      rcases Int.lt_trichotomy k 50 with h | h | h
      · exact h
      · have := w3 h; omega
      · have := g3 h; simp [wsum] at this; omega
    · have hk50 : 50 < k := by
        rcases Int.lt_or_le 50 k with h | h
        · exact h
        · exact absurd (g2 h) hk
      have hws := g3 hk50
      obtain ⟨m, hm, e, e0, e1, e2, e3⟩ := at_split kids 0 p g5 h0 (by omega)
      have ea : atT ⟨k, w, wd, kids⟩ p = (m : Int) :: atT kids[m] (p - wsum (kids.take m)) := by rw [atT, e]; simp
      rw [ea] at hi ⊢
      match i, hi with
      | 0, hi =>
        refine ⟨k, w, wd, kids, x, rfl, by omega, by omega, by omega, hx, fun h => ?_⟩
        simp at h
      | i + 1, hi =>
        simp only [List.length_cons, Nat.add_le_add_iff_right] at hi
        simp only [tsize] at hz
        have hsz := lsize_get kids m hm
        have htk := goodL_take kids m g5
        have hsf := sumFrom_wsum (kids.take m) x htk.1 hx (by omega)
        have hn := wsum_nonneg _ htk.1
        obtain ⟨k', w', wd', l', f, r1, r2, r3, r4, r5, r6⟩ := ih kids[m] (x + wsum (kids.take m)) (p - wsum (kids.take m)) i (by omega) e3 (wantL_get kids m hm w4) (by omega) e0 e1 (by omega) hi
        refine ⟨k', w', wd', l', f, ?_, by omega, by omega, r4, r5, fun h => r6 (by simpa using h)⟩
        rw [List.take_succ_cons, getS, if_neg (by simp only; omega)]
        simp only [Int.toNat_natCast]
        rw [hsf, rd_at25 kids m hm]
        exact r1
theorem around_at {t : S25} (hb : byteT t) (ho : okB t = true) (p : Int) (h0 : 0 ≤ p) (h1 : p < t.f2) (i : Nat) (hi : i ≤ (atT t p).length) :
    ∃ k w wd l f, getF t ((atT t p).take i) = (k, w, wd, l, f, wrap64 (f + wd), true) ∧ f ≤ p ∧ p < f + wd ∧ f + wd ≤ 1099511627776 ∧ 0 ≤ f ∧ (i = (atT t p).length → k < 50 ∧ l = []) := by
  have hg := ok_good t hb ho
  have hw := hg.w
  obtain ⟨k, w, wd, l, f, r1, r2, r3, r4, r5, r6⟩ := around _ t 0 p i (Nat.le_refl _) hg (ok_want ho) (by omega) h0 h1 (by omega) hi
  refine ⟨k, w, wd, l, f, ?_, by omega, by omega, r4, r5, r6⟩
  rw [getF, if_pos ho, r1]
theorem at_nil {t : S25} (hb : byteT t) (ho : okB t = true) (p : Int) (h0 : 0 ≤ p) (h1 : p < t.f2) (he : atT t p = []) : t.f3 = [] := by
  have hg := ok_good t hb ho
  obtain ⟨k, w, wd, kids⟩ := t
  simp only [goodT] at hg
  by_cases hk : k ≤ 50
  · exact hg.2.1 hk
  · have := hg.2.2.1 (by omega)
    simp only [atT] at he
    exact absurd he (at_in kids 0 p h0 (by simp only at h1; omega) hg.2.2.2.2)
mutual
theorem pathT_length : ∀ (t : S25) (p : Int), (atT t p).length + 1 ≤ tsize t
  | ⟨_, _, _, kids⟩, p => by
    have := pathL_length kids 0 p
    simp only [atT, tsize]
    omega
theorem pathL_length : ∀ (l : List S25) (i p : Int), (atL l i p).length ≤ lsize l
  | [], _, _ => by simp [atL]
  | t :: r, i, p => by
    simp only [atL, lsize]
    by_cases c : p ≥ t.f2
    · rw [if_pos c]; have := pathL_length r (i + 1) (p - t.f2); omega
    · rw [if_neg c]; have := pathT_length t p; simp; omega
end
theorem atF_length' (t : S25) (p : Int) : (atF t p).length ≤ tsize t := by
  unfold atF
  split
  · have := pathT_length t p; omega
  · simp
end Go.Proofs.YtcfeijdcanpflaaDoor.H
