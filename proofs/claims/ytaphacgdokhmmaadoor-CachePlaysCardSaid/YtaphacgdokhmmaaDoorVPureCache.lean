/- Plain facts beneath the laws of caches: numerals differ; lists are the same as themselves; which acts are few. -/
import Derived.Test.YtaphacgdokhmmaaDoorVHxglossatorlaw25great
import Derived.Test.YtaphacgdokhmmaaDoorVHxglossatorref25Same
import Derived.Test.YtaphacgdokhmmaaDoorVHxglossatorref25SameTexts
import Derived.Lib.ItoaNum
import Derived.Lib.ItoaMem
set_option linter.unusedVariables false
set_option linter.unusedSimpArgs false
namespace Go.Proofs.YtaphacgdokhmmaaDoor.H
open Go.RowKit Go.Proofs.YtaphacgdokhmmaaDoorW.PrintWords Go.Proofs.YtaphacgdokhmmaaDoorW.PrintLast Go.Proofs.YtaphacgdokhmmaaDoorW.PrintMore
def dval (l : List UInt8) : Nat := l.foldl (fun a c => a * 10 + (c.toNat - 48)) 0
theorem dval_snoc (l : List UInt8) (c : UInt8) : dval (l ++ [c]) = dval l * 10 + (c.toNat - 48) := by simp [dval, List.foldl_append]
theorem dval_dec (u : Nat) : dval (Lib.decDigits u) = u := by
  induction u using Nat.strongRecOn with
  | ind u ih =>
    rw [Lib.decDigits]
    split
    · rename_i h
      have e : (UInt8.ofNat (48 + u)).toNat = 48 + u := by simp; omega
      simp [dval]
      omega
    · rename_i h
      have e : (UInt8.ofNat (48 + u % 10)).toNat = 48 + u % 10 := by simp; omega
      rw [dval_snoc, ih (u / 10) (by omega), e]
      omega
theorem itoa_inj {m n : Nat} (h : Lib.itoa (m : Int) = Lib.itoa (n : Int)) : m = n := by
  rw [Lib.itoa_nonneg, Lib.itoa_nonneg] at h
  have := congrArg dval h
  rwa [dval_dec, dval_dec] at this
theorem same_l0 (l : List Int) (hl : l.length < 1000000000) : ∀ (n i : Nat), i ≤ l.length → l.length - i < n → glossatorref25_Same.l0 n l l (i : Int) = some true
  | 0, i, _, h => absurd h (by omega)
  | n + 1, i, hi, hn => by
    simp only [glossatorref25_Same.l0]
    by_cases c : i < l.length
    · rw [if_pos (by omega), if_pos (by omega), if_pos (by omega), if_pos trivial, show wrap64 ((i : Int) + 1) = ((i + 1 : Nat) : Int) by unfold wrap64; omega]
      exact same_l0 l hl n (i + 1) (by omega) (by omega)
    · rw [if_neg (by omega)]
theorem same_self (l : List Int) (hl : l.length < 1000000000) : ∃ k, glossatorref25_Same.f k l l = some true :=
  ⟨l.length + 1, by unfold glossatorref25_Same.f; rw [if_pos rfl]; exact same_l0 l hl _ 0 (by omega) (by omega)⟩
theorem sameT_l0 (l : List ByteArray) (hl : l.length < 1000000000) : ∀ (n i : Nat), i ≤ l.length → l.length - i < n → glossatorref25_SameTexts.l0 n l l (i : Int) = some true
  | 0, i, _, h => absurd h (by omega)
  | n + 1, i, hi, hn => by
    simp only [glossatorref25_SameTexts.l0]
    by_cases c : i < l.length
    · rw [if_pos (by omega), if_pos (by omega), if_pos (by omega), if_pos trivial, show wrap64 ((i : Int) + 1) = ((i + 1 : Nat) : Int) by unfold wrap64; omega]
      exact sameT_l0 l hl n (i + 1) (by omega) (by omega)
    · rw [if_neg (by omega)]
theorem sameT_self (l : List ByteArray) (hl : l.length < 1000000000) : ∃ k, glossatorref25_SameTexts.f k l l = some true :=
  ⟨l.length + 1, by unfold glossatorref25_SameTexts.f; rw [if_pos rfl]; exact sameT_l0 l hl _ 0 (by omega) (by omega)⟩
set_option maxRecDepth 100000 in
theorem great_l0 (l : List S36) (hb : ∀ t ∈ l, t.f3.length ≤ 17592186044416) : ∀ (n i : Nat) (x : Int), i ≤ l.length → i ≤ 401 → 401 - i < n → 0 ≤ x → x ≤ (i : Int) * 17592186044416 →
    ∃ r, glossatorlaw25_great.l0 n l x (i : Int) = some r ∧ (r = false → l.length ≤ 400 ∧ x ≤ 20000 ∧ ∀ j, i ≤ j → j < l.length → (l.getD j z36).f3.length ≤ 20000) := by
  intro n
  induction n with
  | zero => intro i x _ _ h; omega
  | succ n ih =>
    intro i x hi h4 hn h0 hx
    simp only [glossatorlaw25_great.l0]
    by_cases c : i < l.length
    · rw [if_pos (by omega)]
      by_cases c4 : i ≤ 400
      · have hg : (l.getD i z36).f3.length ≤ 17592186044416 := by
          rw [List.getD_eq_getElem?_getD, List.getElem?_eq_getElem c]
          exact hb _ (List.getElem_mem c)
        have e : (rd_T36 l (i : Int)).f3.length = (l.getD i z36).f3.length := by unfold rd_T36; rw [Int.toNat_natCast]
        rw [if_pos (by omega), if_pos (by omega), show wrap64 ((i : Int) + 1) = ((i + 1 : Nat) : Int) by unfold wrap64; omega, e, show wrap64 (x + ((l.getD i z36).f3.length : Int)) = x + ((l.getD i z36).f3.length : Int) by unfold wrap64; omega]
        obtain ⟨r, h1, h2⟩ := ih (i + 1) (x + ((l.getD i z36).f3.length : Int)) (by omega) (by omega) (by omega) (by omega) (by push_cast; omega)
        refine ⟨r, h1, fun hr => ?_⟩
        obtain ⟨g1, g2, g3⟩ := h2 hr
        refine ⟨g1, by omega, fun j hj hl => ?_⟩
        by_cases e : j = i
        · subst e; omega
        · exact g3 j (by omega) hl
      · rw [if_neg (by omega), if_pos (by omega)]
        exact ⟨true, rfl, fun h => by cases h⟩
    · rw [if_neg (by omega)]
      by_cases c4 : (l.length : Int) > 400
      · rw [if_pos c4]
        exact ⟨true, rfl, fun h => by cases h⟩
      · rw [if_neg c4]
        refine ⟨_, rfl, fun h => ?_⟩
        have := of_decide_eq_false h
        exact ⟨by omega, by omega, fun j hj hl => absurd hl (by omega)⟩
theorem great_tot (l : List S36) (hb : ∀ t ∈ l, t.f3.length ≤ 17592186044416) : ∃ r, glossatorlaw25_great.f 500 l = some r ∧ (r = false → l.length ≤ 400 ∧ ∀ j, j < l.length → (l.getD j z36).f3.length ≤ 20000) := by
  have key : ∀ n : Nat, 401 < n → ∃ r, glossatorlaw25_great.f n l = some r ∧ (r = false → l.length ≤ 400 ∧ ∀ j, j < l.length → (l.getD j z36).f3.length ≤ 20000) := fun n hn => by
    unfold glossatorlaw25_great.f
    obtain ⟨r, h1, h2⟩ := great_l0 l hb n 0 0 (by omega) (by omega) (by omega) (by omega) (by omega)
    exact ⟨r, h1, fun h => ⟨(h2 h).1, fun j hj => (h2 h).2.2 j (by omega) hj⟩⟩
  exact key 500 (by omega)
end Go.Proofs.YtaphacgdokhmmaaDoor.H
