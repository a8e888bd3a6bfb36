/- The plain laws beneath TreeMay: whether two trees are the same, numerals, where nodes stand. -/
import Derived.Test.YtcfeijdcanpflaaDoorQHSameC
import Derived.Test.YtcfeijdcanpflaaDoorQPureSpans
import Derived.Test.YtcfeijdcanpflaaDoorQHxglossatorref15number
import Derived.Test.YtcfeijdcanpflaaDoorQHxglossatorref15Same
import Derived.Test.YtcfeijdcanpflaaDoorQHxglossatorref15Name
import Derived.Lib.ItoaNum
set_option linter.unusedVariables false
set_option linter.unusedSimpArgs false
namespace Go.Proofs.YtcfeijdcanpflaaDoor.H
open Go.RowKit Go.Proofs.YtcfeijdcanpflaaDoorW.PrintWords Go.Proofs.YtcfeijdcanpflaaDoorW.PrintLast Go.Proofs.YtcfeijdcanpflaaDoorW.PrintMore
theorem eta25' (t : S25) : (⟨t.f0, t.f1, t.f2, t.f3⟩ : S25) = t := by cases t; rfl
mutual
theorem rsame_T : ∀ (t u : S25), tsize t ≤ 2000000 → Ev (fun n => glossatorref15_Same.f n t.f0 t.f1 t.f2 t.f3 u.f0 u.f1 u.f2 u.f3) (sameB t u)
  | ⟨k, w, wd, l⟩, u, h => by
    simp only [tsize] at h
    simp only [sameB]
    have bad : Ev (fun n => glossatorref15_Same.j0 n true k w wd l u.f0 u.f1 u.f2 u.f3) false := Ev.step (f := fun _ => some false) (fun n => by rw [glossatorref15_Same.j0, if_pos rfl]) (Ev.now _)
    by_cases h0 : k = u.f0
    case neg =>
      have e : (k == u.f0) = false := by simp [h0]
      rw [e, Bool.false_and]
      exact Ev.step (fun n => by rw [glossatorref15_Same.f, if_neg h0]) bad
    by_cases h1 : w = u.f1
    case neg =>
      have e : (w == u.f1) = false := by simp [h1]
      rw [e, Bool.false_and, Bool.and_false]
      exact Ev.step (fun n => by rw [glossatorref15_Same.f, if_pos h0, if_neg h1]) bad
    by_cases h2 : wd = u.f2
    case neg =>
      have e : (wd == u.f2) = false := by simp [h2]
      rw [e, Bool.false_and, Bool.and_false, Bool.and_false]
      exact Ev.step (fun n => by rw [glossatorref15_Same.f, if_pos h0, if_pos h1, if_neg h2]) bad
    have e0 : (k == u.f0) = true := by simp [h0]
    have e1 : (w == u.f1) = true := by simp [h1]
    have e2 : (wd == u.f2) = true := by simp [h2]
    rw [e0, e1, e2, Bool.true_and, Bool.true_and, Bool.true_and]
    by_cases hl : l.length = u.f3.length
    · have e3 : ((l.length : Int) != (u.f3.length : Int)) = false := by simp [hl]
      have := rsame_L l u.f3 [] [] k w wd u.f0 u.f1 u.f2 rfl hl (by omega) (by simp)
      rw [List.nil_append, List.nil_append] at this
      exact Ev.step (fun n => by rw [glossatorref15_Same.f, if_pos h0, if_pos h1, if_pos h2, e3]) (Ev.step (fun n => by rw [glossatorref15_Same.j0, if_neg (by simp)]; rfl) this)
    · have e3 : ((l.length : Int) != (u.f3.length : Int)) = true := by simp; omega
      rw [sameL_len l u.f3 hl]
      exact Ev.step (fun n => by rw [glossatorref15_Same.f, if_pos h0, if_pos h1, if_pos h2, e3]) bad
theorem rsame_L : ∀ (l m p q : List S25) (k w wd k' w' wd' : Int), p.length = q.length → l.length = m.length → lsize l ≤ 2000000 → p.length ≤ 2000000 - lsize l →
    Ev (fun n => glossatorref15_Same.l0 n (p.length : Int) k w wd (p ++ l) k' w' wd' (q ++ m)) (sameL l m)
  | [], [], p, q, k, w, wd, k', w', wd', _, _, _, _ => by
    simp only [sameL]
    exact Ev.step (f := fun _ => some true) (fun n => by rw [glossatorref15_Same.l0, if_neg (by simp)]) (Ev.now _)
  | [], _ :: _, p, q, k, w, wd, k', w', wd', _, h, _, _ => by simp at h
  | _ :: _, [], p, q, k, w, wd, k', w', wd', _, h, _, _ => by simp at h
  | t :: r, u :: s, p, q, k, w, wd, k', w', wd', hp, hl, hs, hp2 => by
    simp only [lsize] at hs hp2
    simp only [sameL]
    have hps := tsize_pos t
    have h1 := rsame_T t u (by omega)
    have h2 := rsame_L r s (p ++ [t]) (q ++ [u]) k w wd k' w' wd' (by simp [hp]) (by simpa using hl) (by omega) (by simp; omega)
    have e : ((p.length + 1 : Nat) : Int) = (p.length : Int) + 1 := by omega
    rw [List.length_append, List.length_singleton, List.append_assoc, List.singleton_append, List.append_assoc, List.singleton_append, e] at h2
    have hrd : rd_T25 (q ++ u :: s) (p.length : Int) = u := by rw [hp]; exact rd_mid25 q u s
    refine Ev.step (f := fun n => (glossatorref15_Same.f n t.f0 t.f1 t.f2 t.f3 u.f0 u.f1 u.f2 u.f3).bind fun b => (if b = true then (glossatorref15_Same.l0 n ((p.length : Int) + 1) k w wd (p ++ t :: r) k' w' wd' (q ++ u :: s)) else (some false))) (fun n => ?_) (Ev.bind (f := fun n b => if b = true then _ else some false) h1 ?_)
    · rw [glossatorref15_Same.l0, if_pos (by simp; omega), if_pos (by omega), if_pos (by simp; omega), rd_mid25, hrd, wrap_id (by omega) (by omega)]
    · cases hb : sameB t u with
      | true => simp only [if_true, Bool.true_and]; exact h2
      | false => simp only [Bool.false_and, Bool.false_eq_true, if_false]; exact Ev.now _
end
theorem dig10 : ∀ d : Fin 10, strOfNums [(wrap64 (48 + ((d.val : Nat) : Int))) % 256] = ⟨#[UInt8.ofNat (48 + d.val)]⟩ := by decide +kernel
theorem dig10' (d : Nat) (h : d < 10) : strOfNums [(wrap64 (48 + (d : Int))) % 256] = ⟨#[UInt8.ofNat (48 + d)]⟩ := dig10 ⟨d, h⟩
theorem number_ev (z : Nat) : ∀ n : Nat, n ≤ z → n < 9223372036854775808 → ∃ K, ∀ k, K ≤ k → glossatorref15_number.f k (n : Int) = some ⟨(Lib.decDigits n).toArray⟩ := by
  induction z with
  | zero =>
    intro n hn _
    obtain rfl : n = 0 := by omega
    refine ⟨1, fun k hk => ?_⟩
    obtain ⟨k, rfl⟩ : ∃ m, k = m + 1 := ⟨k - 1, by omega⟩
    rw [glossatorref15_number.f, if_pos (by omega), Lib.decDigits, dif_pos (by omega), dig10' 0 (by omega)]
  | succ z ih =>
    intro n hn hb
    by_cases hlt : n < 10
    · refine ⟨1, fun k hk => ?_⟩
      obtain ⟨k, rfl⟩ : ∃ m, k = m + 1 := ⟨k - 1, by omega⟩
      rw [glossatorref15_number.f, if_pos (by omega), Lib.decDigits, dif_pos hlt, dig10' n hlt]
    · obtain ⟨K, hK⟩ := ih (n / 10) (by omega) (by omega)
      refine ⟨K + 1, fun k hk => ?_⟩
      obtain ⟨k, rfl⟩ : ∃ m, k = m + 1 := ⟨k - 1, by omega⟩
      have ed : Int.tdiv (n : Int) 10 = ((n / 10 : Nat) : Int) := rfl
      have em : Int.tmod (n : Int) 10 = ((n % 10 : Nat) : Int) := rfl
      have ew : wrap64 ((n / 10 : Nat) : Int) = ((n / 10 : Nat) : Int) := wrap_id (by omega) (by omega)
      rw [glossatorref15_number.f, if_neg (by omega), ed, em, ew, hK k (by omega), Option.bind_some, Option.bind_some]
      have es : strOfNums [(wrap64 (48 + ((n % 10 : Nat) : Int))) % 256] = ⟨#[UInt8.ofNat (48 + n % 10)]⟩ := dig10' (n % 10) (by omega)
      rw [es]
      have hl := Lib.nDigits_le20 (n / 10) (by omega)
      have hsz : (⟨(Lib.decDigits (n / 10)).toArray⟩ : ByteArray).size ≤ 20 := by
        have e : (⟨(Lib.decDigits (n / 10)).toArray⟩ : ByteArray).size = (Lib.decDigits (n / 10)).length := rfl
        rw [e, Lib.decDigits_length]
        exact hl
      rw [if_pos (by rw [show (⟨#[UInt8.ofNat (48 + n % 10)]⟩ : ByteArray).size = 1 from rfl]; omega)]
      conv => rhs; rw [Lib.decDigits, dif_neg hlt]
      congr 1
theorem number_some (n : Int) (h0 : 0 ≤ n) (h1 : n ≤ 9223372036854775807) : ∃ k, glossatorref15_number.f k n = some (itoaB n) := by
  obtain ⟨m, rfl⟩ := Int.eq_ofNat_of_zero_le h0
  obtain ⟨K, hK⟩ := number_ev m m (Nat.le_refl _) (by omega)
  refine ⟨K, ?_⟩
  rw [hK K (Nat.le_refl _), itoaB, Lib.itoa, if_neg (by omega), Int.toNat_natCast]
theorem refName_f : ∀ k : Fin 256, glossatorref15_Name.f (k.val : Int) = some (NAMES.getD k.val ByteArray.empty) := by decide +kernel
theorem refName_some (k : Int) (h0 : 0 ≤ k) (h1 : k < 256) : glossatorref15_Name.f k = some (nameB k) := by
  have h := refName_f ⟨k.toNat, by omega⟩
  rw [show ((k.toNat : Nat) : Int) = k by omega] at h
  exact h
mutual
theorem preT_at : ∀ (t : S25) (f d : Int) (x : S25 × Int × Int), x ∈ preT t f d → goodT t → 0 ≤ f → f + t.f2 ≤ 1099511627776 → 0 ≤ x.2.1 ∧ 0 ≤ x.1.f2 ∧ x.2.1 + x.1.f2 ≤ 1099511627776
  | ⟨k, w, wd, l⟩, f, d, x, h, hg, h0, h1 => by
    have hg' := hg
    simp only [preT, List.mem_cons] at h
    simp only [goodT] at hg'
    simp only at h1
    rcases h with rfl | h
    · exact ⟨h0, hg'.1.1, h1⟩
    · by_cases hl : l = []
      · subst hl; simp [preTL] at h
      · have hk : 50 < k := by
          rcases Int.lt_or_le 50 k with h | h
          · exact h
          · exact absurd (hg'.2.1 h) hl
        have := hg'.2.2.1 hk
        exact preTL_at l f d x h hg'.2.2.2.2 h0 (by omega)
theorem preTL_at : ∀ (l : List S25) (f d : Int) (x : S25 × Int × Int), x ∈ preTL l f d → goodL l → 0 ≤ f → f + wsum l ≤ 1099511627776 → 0 ≤ x.2.1 ∧ 0 ≤ x.1.f2 ∧ x.2.1 + x.1.f2 ≤ 1099511627776
  | [], f, d, x, h, _, _, _ => by simp [preTL] at h
  | t :: r, f, d, x, h, hg, h0, h1 => by
    simp only [preTL, List.mem_append] at h
    simp only [goodL] at hg
    simp only [wsum] at h1
    have hw := hg.1.w
    have hr := wsum_nonneg r hg.2
    rcases h with h | h
    · exact preT_at t f _ x h hg.1 h0 (by omega)
    · rw [wrap_id (by omega) (by omega)] at h
      exact preTL_at r _ d x h hg.2 (by omega) (by omega)
end
theorem allT_at {t : S25} (hb : byteT t) {x : S25 × Int × Int} (h : x ∈ allT t) : 0 ≤ x.2.1 ∧ 0 ≤ x.1.f2 ∧ x.2.1 + x.1.f2 ≤ 1099511627776 := by
  unfold allT at h
  cases ho : okB t with
  | false => rw [ho] at h; simp at h
  | true =>
    rw [ho, if_pos rfl] at h
    have hg := ok_good t hb ho
    exact preT_at t 0 0 x h hg (by omega) (by have := hg.w; omega)
end Go.Proofs.YtcfeijdcanpflaaDoor.H
