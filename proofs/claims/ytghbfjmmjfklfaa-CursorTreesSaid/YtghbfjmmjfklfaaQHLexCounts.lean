/- The contracts of lex.trivia and lex.Counts: which kinds count. -/
import Derived.Test.YtghbfjmmjfklfaaQHx0
import Derived.Test.YtghbfjmmjfklfaaQHxslicesContainsuint8uint8
import Derived.Outline
set_option linter.unusedVariables false
set_option linter.unusedSimpArgs false
namespace Go.Proofs.Ytghbfjmmjfklfaa.H
open Go.RowKit Go.Proofs.YtghbfjmmjfklfaaW.PrintWords Go.Proofs.YtghbfjmmjfklfaaW.PrintLast Go.Proofs.YtghbfjmmjfklfaaW.PrintMore
def triviaL : List Int := [0, 1, 2, 3, 4, 5, 9]
def countsB (k : Int) : Bool := decide (k ≤ 40) && (decide (k ≤ 17) || decide (20 ≤ k)) && !(triviaL.contains k)
def lex_Counts.f (a0 : Int) : Option Bool := some (countsB a0)
def triviaV : Value := .agg #[.int .u8 0, .int .u8 1, .int .u8 2, .int .u8 3, .int .u8 4, .int .u8 5, .int .u8 9]
theorem trivia_calls (w : World) : Calls Try.prog 53 #[] w fun e w' => e = .returned (.agg #[.int .u8 0, .int .u8 1, .int .u8 2, .int .u8 3, .int .u8 4, .int .u8 5, .int .u8 9]) ∧ Below w.heap.size w w' := by
  go_enter Try.func53, Try.ntmps53
  go_wp2
  exact bodyPost_ret (v := .agg #[.int .u8 0, .int .u8 1, .int .u8 2, .int .u8 3, .int .u8 4, .int .u8 5, .int .u8 9]) (by simp [results, Try.results53, go_sem]) rfl ⟨rfl, below_alloc (Below.refl _ _) _⟩
theorem index_trivia (k : Nat) (hk : 8 < k) (x : Int) : ∃ i, slices_Index_uint8_uint8.f k triviaL x = some i ∧ decide (i ≥ 0) = triviaL.contains x := by
  obtain ⟨k, rfl⟩ : ∃ m, k = m + 1 + 1 + 1 + 1 + 1 + 1 + 1 + 1 := ⟨k - 8, by omega⟩
  unfold slices_Index_uint8_uint8.f triviaL
  have hw : ∀ x : Int, 0 ≤ x → x ≤ 100 → wrap64 x = x := fun x h0 h1 => by unfold wrap64; omega
  have e1 : wrap64 (0 + 1) = 1 := hw 1 (by omega) (by omega)
  have e2 : wrap64 (1 + 1) = 2 := hw 2 (by omega) (by omega)
  have e3 : wrap64 (2 + 1) = 3 := hw 3 (by omega) (by omega)
  have e4 : wrap64 (3 + 1) = 4 := hw 4 (by omega) (by omega)
  have e5 : wrap64 (4 + 1) = 5 := hw 5 (by omega) (by omega)
  have e6 : wrap64 (5 + 1) = 6 := hw 6 (by omega) (by omega)
  have e7 : wrap64 (6 + 1) = 7 := hw 7 (by omega) (by omega)
  simp only [slices_Index_uint8_uint8.l0, e1, e2, e3, e4, e5, e6, e7, List.length_cons, List.length_nil]
  simp [rd]
  by_cases h0 : x = 0
  · simp [h0]
  by_cases h1 : x = 1
  · simp [h1]
  by_cases h2 : x = 2
  · simp [h2]
  by_cases h3 : x = 3
  · simp [h3]
  by_cases h4 : x = 4
  · simp [h4]
  by_cases h5 : x = 5
  · simp [h5]
  by_cases h9 : x = 9
  · simp [h9]
  · simp [h0, h1, h2, h3, h4, h5, h9]
theorem contains_trivia (k : Nat) (hk : 8 < k) (x : Int) : slices_Contains_uint8_uint8.f k triviaL x = some (triviaL.contains x) := by
  obtain ⟨i, h1, h2⟩ := index_trivia k hk x
  unfold slices_Contains_uint8_uint8.f
  rw [h1, Option.bind_some, h2]
theorem trivia_reads (W : World) : Kd.C (Kd.int .u8) (W.alloc (.cells #[.int .u8 0, .int .u8 1, .int .u8 2, .int .u8 3, .int .u8 4, .int .u8 5, .int .u8 9] 104)) (some ⟨W.heap.size, 0, none⟩) triviaL.length triviaL := by
  refine Kd.C_of_reads (d := (0 : Int)) (h1 := fun _ => rfl) ⟨rfl, by decide, fun _ => ⟨_, rfl, fun j hj => ?_⟩⟩
  rw [add_plain]
  rw [blk_cell (heap_alloc_new W _) j]
  have hj : j < 7 := hj
  match j, hj with
  | 0, _ => rfl
  | 1, _ => rfl
  | 2, _ => rfl
  | 3, _ => rfl
  | 4, _ => rfl
  | 5, _ => rfl
  | 6, _ => rfl
theorem lex_Counts.calls (a0 : Int) (r : Bool) (w : World) (h : lex_Counts.f a0 = some r) : Calls Try.prog 38 #[.int .u8 a0] w fun e w' => e = .returned (.bool r) ∧ Below w.heap.size w w' := by
  have hr : countsB a0 = r := Option.some.inj h
  clear h
  have HR := Aside0.mk hr
  clear hr
  by_cases h40 : a0 ≤ 40
  case neg =>
    have b40 : decide (a0 ≤ 40) = false := decide_eq_false h40
    have HF := Aside0.mk (show r = false by rw [← HR.out]; simp [countsB, h40])
    clear h40 HR
    go_enter Try.func38, Try.ntmps38
    go_wp2_with (go_at_call 53; refine (trivia_calls _).mono ?_; rintro e w1 ⟨rfl, hb⟩)
    go_ret
    exact ⟨by rw [HF.out]; rfl, below_alloc hb _⟩
  have b40 : decide (a0 ≤ 40) = true := decide_eq_true h40
  by_cases hm : a0 ≤ 17 ∨ 20 ≤ a0
  case neg =>
    have b17 : decide (a0 ≤ 17) = false := decide_eq_false (fun h => hm (.inl h))
    have b20 : decide (20 ≤ a0) = false := decide_eq_false (fun h => hm (.inr h))
    have HF := Aside0.mk (show r = false by rw [← HR.out]; simp [countsB, b17, b20])
    clear h40 HR hm
    go_enter Try.func38, Try.ntmps38
    go_wp2_with (go_at_call 53; refine (trivia_calls _).mono ?_; rintro e w1 ⟨rfl, hb⟩)
    go_ret
    exact ⟨by rw [HF.out]; rfl, below_alloc hb _⟩
  have HF := Aside0.mk (show r = !(triviaL.contains a0) by
    rw [← HR.out]
    unfold countsB
    rw [b40]
    rcases hm with h | h <;> simp [h])
  have HC := fun (w1 : World) => Aside0.mk (slices_Contains_uint8_uint8.calls 9 (some ⟨w1.heap.size, 0, none⟩) 7 triviaL a0 _ _ (trivia_reads w1) (Nat.le_refl 7) (contains_trivia 9 (by omega) a0))
  obtain ⟨q, hq⟩ : ∃ q, q = triviaL.contains a0 := ⟨_, rfl⟩
  rw [← hq] at HF
  have HC2 : ∀ w1 : World, Aside0 (Calls Try.prog 54 #[.slice (some ⟨w1.heap.size, 0, none⟩) 7 7, .int .u8 a0] (w1.alloc (.cells #[.int .u8 0, .int .u8 1, .int .u8 2, .int .u8 3, .int .u8 4, .int .u8 5, .int .u8 9] 104)) fun e w' => e = .returned (.bool q) ∧ Drawn0 (w1.alloc (.cells #[.int .u8 0, .int .u8 1, .int .u8 2, .int .u8 3, .int .u8 4, .int .u8 5, .int .u8 9] 104)) w') := fun w1 => by rw [hq]; exact HC w1
  clear HR HC hq
  by_cases h17 : a0 ≤ 17
  · have b17 : decide (a0 ≤ 17) = true := decide_eq_true h17
    clear h17 h40 hm
    go_enter Try.func38, Try.ntmps38
    go_wp2_with (first | (go_at_call 53; refine (trivia_calls _).mono ?_; rintro e w1 ⟨rfl, hb⟩) | (go_at_call 54; refine (HC2 w1).out.mono ?_; rintro e w2 ⟨rfl, ⟨nd, rfl⟩⟩))
    go_ret
    exact ⟨by rw [HF.out]; rfl, pw_below_drewN (below_alloc hb _) _⟩
  · have b17 : decide (a0 ≤ 17) = false := decide_eq_false h17
    have b20 : decide (20 ≤ a0) = true := decide_eq_true (by omega)
    clear h17 h40 hm
    go_enter Try.func38, Try.ntmps38
    go_wp2_with (first | (go_at_call 53; refine (trivia_calls _).mono ?_; rintro e w1 ⟨rfl, hb⟩) | (go_at_call 54; refine (HC2 w1).out.mono ?_; rintro e w2 ⟨rfl, ⟨nd, rfl⟩⟩))
    go_ret
    exact ⟨by rw [HF.out]; rfl, pw_below_drewN (below_alloc hb _) _⟩
end Go.Proofs.Ytghbfjmmjfklfaa.H
