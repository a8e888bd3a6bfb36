/- The contracts of delta.alike and of the two closures that delta.Edits hands to it: how many places two lists begin (end) with alike. -/
import Derived.Test.YtejdjnfcfnppaaaHx0
import Derived.StillTailTactics
import Derived.Outline
namespace Go.Proofs.Ytejdjnfcfnppaaa.H
open Go.RowKit Go.Proofs.YtejdjnfcfnppaaaW.PrintWords Go.Proofs.YtejdjnfcfnppaaaW.PrintLast Go.Proofs.YtejdjnfcfnppaaaW.PrintMore
attribute [local go_sem] min_two   -- for this text's walks alone

set_option maxHeartbeats 1000000 in
theorem edits1_calls (i : Nat) (W : World) (g1 g2 : Nat) (A0 A1 : Option Addr) (c0 c1 : Nat) (a b : List Int)
    (h1 : W.cell? ⟨g1, 0, none⟩ = some (.slice A0 a.length c0)) (h2 : W.cell? ⟨g2, 0, none⟩ = some (.slice A1 b.length c1))
    (hr0 : Kd.C (Kd.int .i64) W A0 a.length a) (hr1 : Kd.C (Kd.int .i64) W A1 b.length b) (hi0 : i < a.length) (hi1 : i < b.length) :
    Calls Try.prog 29 #[.int .i64 i, .pointer (some ⟨g1, 0, none⟩), .pointer (some ⟨g2, 0, none⟩)] W fun e w' => e = .returned (.bool (rd a i == rd b i)) ∧ Drawn0 W w' := by
  have hm0 : a.length ≤ 9223372036854775807 := hr0.2.1
  have hm1 : b.length ≤ 9223372036854775807 := hr1.2.1
  obtain ⟨ad0, e0, k0⟩ := Kd.at_int hr0 (i : Int) (by omega) (by omega)
  obtain ⟨ad1, e1, k1⟩ := Kd.at_int hr1 (i : Int) (by omega) (by omega)
  subst e0 e1
  rw [Int.toNat_natCast] at k0 k1
  clear hr0 hr1
  go_enter Try.func29, Try.ntmps29
  go_wp2
  go_quiet (fail)
  go_wp2
  go_ret
  exact ⟨rfl, by repeat (first | exact Drawn0.refl _ | apply Drawn0.step)⟩

set_option maxHeartbeats 1000000 in
theorem edits2_calls (i : Nat) (W : World) (g1 g2 : Nat) (A0 A1 : Option Addr) (c0 c1 : Nat) (a b : List Int)
    (h1 : W.cell? ⟨g1, 0, none⟩ = some (.slice A0 a.length c0)) (h2 : W.cell? ⟨g2, 0, none⟩ = some (.slice A1 b.length c1))
    (hr0 : Kd.C (Kd.int .i64) W A0 a.length a) (hr1 : Kd.C (Kd.int .i64) W A1 b.length b) (hi0 : i < a.length) (hi1 : i < b.length) :
    Calls Try.prog 30 #[.int .i64 i, .pointer (some ⟨g1, 0, none⟩), .pointer (some ⟨g2, 0, none⟩)] W fun e w' => e = .returned (.bool (rd a ((a.length - 1 - i : Nat) : Int) == rd b ((b.length - 1 - i : Nat) : Int))) ∧ Drawn0 W w' := by
  have hm0 : a.length ≤ 9223372036854775807 := hr0.2.1
  have hm1 : b.length ≤ 9223372036854775807 := hr1.2.1
  obtain ⟨ad0, e0, k0⟩ := Kd.at_int hr0 ((a.length - 1 - i : Nat) : Int) (by omega) (by omega)
  obtain ⟨ad1, e1, k1⟩ := Kd.at_int hr1 ((b.length - 1 - i : Nat) : Int) (by omega) (by omega)
  subst e0 e1
  rw [Int.toNat_natCast] at k0 k1
  clear hr0 hr1
  go_enter Try.func30, Try.ntmps30
  go_wp2
  go_quiet (fail)
  go_wp2
  go_ret
  exact ⟨rfl, by repeat (first | exact Drawn0.refl _ | apply Drawn0.step)⟩

/-- How many places from 0 on answer yes. -/
def AlikeR (p : Nat → Bool) (n r : Nat) : Prop := r ≤ n ∧ (∀ j, j < r → p j = true) ∧ (r < n → p r = false)
def AlikePost (p : Nat → Bool) (n : Nat) (w : World) (e : Ending) (w' : World) : Prop := ∃ r : Nat, e = .returned (.int .i64 r) ∧ AlikeR p n r ∧ Drawn0 w w'

set_option maxHeartbeats 1000000 in
theorem alike29_calls (p : Nat → Bool) (n : Nat) (x y : Value) (w : World) (hn : n ≤ 9223372036854775807)
    (hF : Aside0 (∀ i, i < n → ∀ m, Calls Try.prog 29 #[.int .i64 i, x, y] (w.drewN m) fun e w' => e = .returned (.bool (p i)) ∧ Drawn0 (w.drewN m) w')) :
    Calls Try.prog 28 #[.int .i64 n, .func (.func 29) #[] #[x, y]] w (AlikePost p n w) := by
  go_enter Try.func28, Try.ntmps28
  go_wp2
  go_loopg [7] n (fun kq v7 w' => ∃ i : Nat, v7 = .int .i64 i ∧ i ≤ n ∧ Aside0 (kq = n - i) ∧ Aside0 (∀ j, j < i → p j = true) ∧ Drawn0 w w')
  case atStart => exact ⟨0, rfl, Nat.zero_le _, ⟨rfl⟩, ⟨fun j hj => by omega⟩, Drawn0.refl _⟩
  case round =>
    obtain ⟨i, rfl, hi, HK, HP, ⟨m, rfl⟩⟩ := hrel
    by_cases hlt : i < n
    · have hc := Aside0.mk (hF.out i hlt m)
      obtain ⟨q, hq⟩ : ∃ q, q = p i := ⟨_, rfl⟩
      rw [← hq] at hc
      have HQ := Aside0.mk hq
      clear hq
      cases q with
      | true =>
        go_wp2_with (go_at_call 29; refine hc.out.mono ?_; rintro e w' ⟨rfl, ⟨nd, rfl⟩⟩)
        go_roundg (n - (i + 1))
        case measure => have := HK.out; omega
        case rel => exact ⟨i + 1, by go_num, by omega, ⟨rfl⟩, ⟨fun j hj => by
          rcases Nat.lt_or_ge j i with h | h
          · exact HP.out j h
          · obtain rfl : j = i := by omega
            exact HQ.out.symm⟩, by repeat (first | exact Drawn0.refl _ | apply Drawn0.step)⟩
      | false =>
        go_wp2_with (go_at_call 29; refine hc.out.mono ?_; rintro e w' ⟨rfl, ⟨nd, rfl⟩⟩)
        go_ret
        exact ⟨i, rfl, ⟨hi, HP.out, fun _ => HQ.out.symm⟩, by repeat (first | exact Drawn0.refl _ | apply Drawn0.step)⟩
    · obtain rfl : i = n := by omega
      go_wp2
      go_ret
      exact ⟨i, rfl, ⟨hi, HP.out, fun h => by omega⟩, by repeat (first | exact Drawn0.refl _ | apply Drawn0.step)⟩

set_option maxHeartbeats 1000000 in
theorem alike30_calls (p : Nat → Bool) (n : Nat) (x y : Value) (w : World) (hn : n ≤ 9223372036854775807)
    (hF : Aside0 (∀ i, i < n → ∀ m, Calls Try.prog 30 #[.int .i64 i, x, y] (w.drewN m) fun e w' => e = .returned (.bool (p i)) ∧ Drawn0 (w.drewN m) w')) :
    Calls Try.prog 28 #[.int .i64 n, .func (.func 30) #[] #[x, y]] w (AlikePost p n w) := by
  go_enter Try.func28, Try.ntmps28
  go_wp2
  go_loopg [7] n (fun kq v7 w' => ∃ i : Nat, v7 = .int .i64 i ∧ i ≤ n ∧ Aside0 (kq = n - i) ∧ Aside0 (∀ j, j < i → p j = true) ∧ Drawn0 w w')
  case atStart => exact ⟨0, rfl, Nat.zero_le _, ⟨rfl⟩, ⟨fun j hj => by omega⟩, Drawn0.refl _⟩
  case round =>
    obtain ⟨i, rfl, hi, HK, HP, ⟨m, rfl⟩⟩ := hrel
    by_cases hlt : i < n
    · have hc := Aside0.mk (hF.out i hlt m)
      obtain ⟨q, hq⟩ : ∃ q, q = p i := ⟨_, rfl⟩
      rw [← hq] at hc
      have HQ := Aside0.mk hq
      clear hq
      cases q with
      | true =>
        go_wp2_with (go_at_call 30; refine hc.out.mono ?_; rintro e w' ⟨rfl, ⟨nd, rfl⟩⟩)
        go_roundg (n - (i + 1))
        case measure => have := HK.out; omega
        case rel => exact ⟨i + 1, by go_num, by omega, ⟨rfl⟩, ⟨fun j hj => by
          rcases Nat.lt_or_ge j i with h | h
          · exact HP.out j h
          · obtain rfl : j = i := by omega
            exact HQ.out.symm⟩, by repeat (first | exact Drawn0.refl _ | apply Drawn0.step)⟩
      | false =>
        go_wp2_with (go_at_call 30; refine hc.out.mono ?_; rintro e w' ⟨rfl, ⟨nd, rfl⟩⟩)
        go_ret
        exact ⟨i, rfl, ⟨hi, HP.out, fun _ => HQ.out.symm⟩, by repeat (first | exact Drawn0.refl _ | apply Drawn0.step)⟩
    · obtain rfl : i = n := by omega
      go_wp2
      go_ret
      exact ⟨i, rfl, ⟨hi, HP.out, fun h => by omega⟩, by repeat (first | exact Drawn0.refl _ | apply Drawn0.step)⟩

/-- How long two lists are alike from the beginning on. -/
def pre : List Int → List Int → Nat
  | x :: xs, y :: ys => if x = y then pre xs ys + 1 else 0
  | _, _ => 0
theorem pre_le (a b : List Int) : pre a b ≤ a.length ∧ pre a b ≤ b.length := by
  induction a generalizing b with
  | nil => cases b <;> simp [pre]
  | cons x xs ih =>
    cases b with
    | nil => simp [pre]
    | cons y ys =>
      have := ih ys
      simp only [pre, List.length_cons]
      split <;> omega
theorem pre_R (a b : List Int) : AlikeR (fun i => rd a i == rd b i) (min a.length b.length) (pre a b) := by
  induction a generalizing b with
  | nil => cases b <;> exact ⟨by simp [pre], fun j hj => by simp [pre] at hj, fun h => by simp [pre] at h⟩
  | cons x xs ih =>
    cases b with
    | nil => exact ⟨by simp [pre], fun j hj => by simp [pre] at hj, fun h => by simp at h⟩
    | cons y ys =>
      obtain ⟨h1, h2, h3⟩ := ih ys
      by_cases e : x = y
      · subst e
        simp only [pre, if_true]
        refine ⟨by simp only [List.length_cons]; omega, fun j hj => ?_, fun h => ?_⟩
        · cases j with
          | zero => simp [rd]
          | succ j => have := h2 j (by omega); simpa [rd] using this
        · have := h3 (by simp only [List.length_cons] at h; omega)
          simpa [rd] using this
      · simp only [pre, if_neg e]
        exact ⟨Nat.zero_le _, fun j hj => by omega, fun _ => by simp [rd, e]⟩
theorem AlikeR.unique {p q : Nat → Bool} {n r s : Nat} (h : AlikeR p n r) (k : AlikeR q n s) (hpq : ∀ i, i < n → p i = q i) : r = s := by
  rcases Nat.lt_trichotomy r s with g | g | g
  · have h1 := h.2.2 (by have := k.1; omega)
    have h2 := k.2.1 r g
    rw [← hpq r (by have := k.1; omega), h1] at h2
    cases h2
  · exact g
  · have h1 := k.2.2 (by have := h.1; omega)
    have h2 := h.2.1 s g
    rw [hpq s (by have := h.1; omega), h1] at h2
    cases h2
theorem rd_rev (a : List Int) (i : Nat) (h : i < a.length) : rd a.reverse i = rd a ((a.length - 1 - i : Nat) : Int) := by
  simp only [rd, Int.toNat_natCast]
  rw [List.getD_eq_getElem?_getD, List.getD_eq_getElem?_getD, List.getElem?_reverse h]
theorem pre_of_alike {a b : List Int} {r : Nat} (h : AlikeR (fun i => rd a i == rd b i) (min a.length b.length) r) : r = pre a b := h.unique (pre_R a b) (fun _ _ => rfl)
theorem pre_of_alike_rev {a b : List Int} {r : Nat} (h : AlikeR (fun i => rd a ((a.length - 1 - i : Nat) : Int) == rd b ((b.length - 1 - i : Nat) : Int)) (min a.length b.length) r) : r = pre a.reverse b.reverse := by
  have k := pre_R a.reverse b.reverse
  simp only [List.length_reverse] at k
  exact h.unique k (fun i hi => by rw [rd_rev a i (by omega), rd_rev b i (by omega)])

end Go.Proofs.Ytejdjnfcfnppaaa.H
