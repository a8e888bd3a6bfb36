/- Texts of this claim, merged. -/
import Derived.Test.YtobgkpnigjfhmaaV3
import Derived.Outline
set_option maxRecDepth 100000
set_option maxHeartbeats 8000000
set_option linter.unusedVariables false
set_option linter.unusedSimpArgs false
namespace Go.Proofs.Ytobgkpnigjfhmaa.H
open Go.RowKit Go.Proofs.YtobgkpnigjfhmaaW.PrintWords Go.Proofs.YtobgkpnigjfhmaaW.PrintLast Go.Proofs.YtobgkpnigjfhmaaW.PrintMore
def triviaL : List Int := [0, 1, 2, 3, 4, 5, 9]
def countsB (k : Int) : Bool := decide (k ≤ 40) && (decide (k ≤ 17) || decide (20 ≤ k)) && !(triviaL.contains k)
def zbZ.f (a0 : Int) : Option Bool := some (countsB a0)
def triviaV : Value := .agg #[.int .u8 0, .int .u8 1, .int .u8 2, .int .u8 3, .int .u8 4, .int .u8 5, .int .u8 9]
theorem trivia_calls (w : World) : Calls Try.prog 79 #[] w fun e w' => e = .returned (.agg #[.int .u8 0, .int .u8 1, .int .u8 2, .int .u8 3, .int .u8 4, .int .u8 5, .int .u8 9]) ∧ Below w.heap.size w w' := by
 go_enter Try.func79, Try.ntmps79
 go_wp2
 exact bodyPost_ret (v := .agg #[.int .u8 0, .int .u8 1, .int .u8 2, .int .u8 3, .int .u8 4, .int .u8 5, .int .u8 9]) (by simp [results, Try.results79, go_sem]) rfl ⟨rfl, zad (Below.refl _ _) _⟩
theorem index_trivia (k : Nat) (hk : 8 < k) (x : Int) : ∃ i, zaT.f k triviaL x = some i ∧ decide (i ≥ 0) = triviaL.contains x := by
 obtain ⟨k, rfl⟩ : ∃ m, k = m + 1 + 1 + 1 + 1 + 1 + 1 + 1 + 1 := ⟨k - 8, q9⟩
 unfold zaT.f triviaL
 have hw : ∀ x : Int, 0 ≤ x → x ≤ 100 → wrap64 x = x := fun x h0 h1 => by unfold wrap64; omega
 have e1 : wrap64 (0 + 1) = 1 := hw 1 q9 q9
 have e2 : wrap64 (1 + 1) = 2 := hw 2 q9 q9
 have e3 : wrap64 (2 + 1) = 3 := hw 3 q9 q9
 have e4 : wrap64 (3 + 1) = 4 := hw 4 q9 q9
 have e5 : wrap64 (4 + 1) = 5 := hw 5 q9 q9
 have e6 : wrap64 (5 + 1) = 6 := hw 6 q9 q9
 have e7 : wrap64 (6 + 1) = 7 := hw 7 q9 q9
 simp only [zaT.l0, e1, e2, e3, e4, e5, e6, e7, List.length_cons, List.length_nil]; simp [rd]; by_cases h0 : x = 0
 ·simp [h0]
 by_cases h1 : x = 1
 ·simp [h1]
 by_cases h2 : x = 2
 ·simp [h2]
 by_cases h3 : x = 3
 ·simp [h3]
 by_cases h4 : x = 4
 ·simp [h4]
 by_cases h5 : x = 5
 ·simp [h5]
 by_cases h9 : x = 9
 ·simp [h9]
 ·simp [h0, h1, h2, h3, h4, h5, h9]
theorem contains_trivia (k : Nat) (hk : 8 < k) (x : Int) : zbs.f k triviaL x = some (triviaL.contains x) := by
 obtain ⟨i, h1, h2⟩ := index_trivia k hk x; unfold zbs.f
 rw [h1, Option.bind_some, h2]
theorem trivia_reads (W : World) : Kd.C (Kd.int .u8) (W.alloc (.cells #[.int .u8 0, .int .u8 1, .int .u8 2, .int .u8 3, .int .u8 4, .int .u8 5, .int .u8 9] 133)) (some ⟨W.heap.size, 0, none⟩) triviaL.length triviaL := by
 refine Kd.C_of_reads (d := (0 : Int)) (h1 := fun _ => rfl) ⟨rfl, qe, fun _ => ⟨_, rfl, fun j hj => ?_⟩⟩
 rw [add_plain]; rw [zaf (heap_alloc_new W _) j]; have hj : j < 7 := hj
 match j, hj with
 | 0, _ => rfl
 | 1, _ => rfl
 | 2, _ => rfl
 | 3, _ => rfl
 | 4, _ => rfl
 | 5, _ => rfl
 | 6, _ => rfl
theorem zbZ.calls (a0 : Int) (r : Bool) (w : World) (h : zbZ.f a0 = some r) : Calls Try.prog 74 #[.int .u8 a0] w fun e w' => e = .returned (.bool r) ∧ Below w.heap.size w w' := by
 have hr : countsB a0 = r := Option.some.inj h; clear h; have HR := J hr; clear hr; by_cases h40 : a0 ≤ 40
 case neg =>
  have b40 : decide (a0 ≤ 40) = false := decide_eq_false h40; have HF := J (show r = false by rw [← HR.out]; simp [countsB, h40])
  clear h40 HR; go_enter Try.func74, Try.ntmps74
  go_wp2_with (go_at_call 79; refine (trivia_calls _).mono ?_; rintro e w1 ⟨rfl, hb⟩)
  go_ret
  exact ⟨by rw [HF.out]; rfl, zad hb _⟩
 have b40 : decide (a0 ≤ 40) = true := decide_eq_true h40; by_cases hm : a0 ≤ 17 ∨ 20 ≤ a0
 case neg =>
  have b17 : decide (a0 ≤ 17) = false := decide_eq_false (fun h => hm (.inl h))
  have b20 : decide (20 ≤ a0) = false := decide_eq_false (fun h => hm (.inr h))
  have HF := J (show r = false by rw [← HR.out]; simp [countsB, b17, b20])
  clear h40 HR hm; go_enter Try.func74, Try.ntmps74
  go_wp2_with (go_at_call 79; refine (trivia_calls _).mono ?_; rintro e w1 ⟨rfl, hb⟩)
  go_ret
  exact ⟨by rw [HF.out]; rfl, zad hb _⟩
 have HF := J (show r = !(triviaL.contains a0) by
  rw [← HR.out]; unfold countsB
  rw [b40]; rcases hm with h | h <;> simp [h])
 have HC := fun (w1 : World) => J (zbs.calls 9 (some ⟨w1.heap.size, 0, none⟩) 7 triviaL a0 _ _ (trivia_reads w1) (Nat.le_refl 7) (contains_trivia 9 q9 a0))
 obtain ⟨q, hq⟩ : ∃ q, q = triviaL.contains a0 := ⟨_, rfl⟩; rw [← hq] at HF; have HC2 : ∀ w1 : World, zaa (Calls Try.prog 80 #[.slice (some ⟨w1.heap.size, 0, none⟩) 7 7, .int .u8 a0] (w1.alloc (.cells #[.int .u8 0, .int .u8 1, .int .u8 2, .int .u8 3, .int .u8 4, .int .u8 5, .int .u8 9] 133)) fun e w' => e = .returned (.bool q) ∧ zat (w1.alloc (.cells #[.int .u8 0, .int .u8 1, .int .u8 2, .int .u8 3, .int .u8 4, .int .u8 5, .int .u8 9] 133)) w') := fun w1 => by rw [hq]; exact HC w1
 clear HR HC hq; by_cases h17 : a0 ≤ 17
 ·have b17 : decide (a0 ≤ 17) = true := decide_eq_true h17
  clear h17 h40 hm; go_enter Try.func74, Try.ntmps74
  go_wp2_with (first | (go_at_call 79; refine (trivia_calls _).mono ?_; rintro e w1 ⟨rfl, hb⟩) | (go_at_call 80; refine (HC2 w1).out.mono ?_; rintro e w2 ⟨rfl, ⟨nd, rfl⟩⟩))
  go_ret
  exact ⟨by rw [HF.out]; rfl, zac (zad hb _) _⟩
 ·have b17 : decide (a0 ≤ 17) = false := decide_eq_false h17
  have b20 : decide (20 ≤ a0) = true := decide_eq_true q9
  clear h17 h40 hm; go_enter Try.func74, Try.ntmps74
  go_wp2_with (first | (go_at_call 79; refine (trivia_calls _).mono ?_; rintro e w1 ⟨rfl, hb⟩) | (go_at_call 80; refine (HC2 w1).out.mono ?_; rintro e w2 ⟨rfl, ⟨nd, rfl⟩⟩))
  go_ret
  exact ⟨by rw [HF.out]; rfl, zac (zad hb _) _⟩
section
attribute [local go_sem] zbi zbg zbu zbv za9 za8 zbh zbf
def tree_leaf.f (a0_0 : Int) (a0_1 : Int) (a0_2 : Int) (l0_3 : List (S24)) : Option (Bool) := if (l0_3.length : Int) > 0 then (some false) else (if a0_0 = 50 then (if a0_2 = 0 then ((zbZ.f a0_1).bind fun t104 => (if t104 = true then (some true) else (if a0_1 = 60 then (some true) else (some (a0_1 == 52))))) else (some false)) else ((zbE.f a0_0).bind fun t105 => (if t105 = true then (if a0_2 ≥ 1 then (if a0_2 ≤ 1099511627776 then (some (a0_1 == 0)) else (some false)) else (some false)) else (some false))))
theorem tree_leaf.calls (a0_0 : Int) (a0_1 : Int) (a0_2 : Int) (A0_3 : Option Addr) (c0_3 : Nat) (l0_3 : List (S24)) (r : Bool) (w : World) (hr0_3 : Kd.C k24 w A0_3 l0_3.length l0_3) (hc0_3 : l0_3.length ≤ c0_3) (h : tree_leaf.f a0_0 a0_1 a0_2 l0_3 = some r) :
  Calls Try.prog 66 #[.agg #[.int .u8 a0_0, .int .u8 a0_1, .int .i64 a0_2, .slice A0_3 l0_3.length c0_3]] w fun e w' => e = .returned (.bool r) ∧ Below w.heap.size w w' := by
 have hu24 := Try.underlying24; have HR0_3 := J hr0_3; have HC0_3 := J hc0_3; clear hr0_3 hc0_3; have HB := J (Below.refl w.heap.size w); have H : (if (l0_3.length : Int) > 0 then (some false) else (if a0_0 = 50 then (if a0_2 = 0 then ((zbZ.f a0_1).bind fun t104 => (if t104 = true then (some true) else (if a0_1 = 60 then (some true) else (some (a0_1 == 52))))) else (some false)) else ((zbE.f a0_0).bind fun t105 => (if t105 = true then (if a0_2 ≥ 1 then (if a0_2 ≤ 1099511627776 then (some (a0_1 == 0)) else (some false)) else (some false)) else (some false))))) = some r := h
 clear h; by_cases c2 : (l0_3.length : Int) > 0
 ·rw [if_pos c2] at H
  have c2b0 : decide (0 < (l0_3.length : Int)) = true := decide_eq_true c2; have c2b1 : decide (0 < l0_3.length) = true := decide_eq_true q9
  clear c2; obtain rfl := Option.some.inj H; go_enter Try.func66, Try.ntmps66
  go_wp2_with (first | ((with_reducible refine za2 (N := 1) rfl ?_); refine zbd ?hg (N := 1) ?hd (cs := #[.int .u8 a0_0, .int .u8 a0_1, .int .i64 a0_2, .slice A0_3 l0_3.length c0_3]) (t := 24) ?hr ?_; (case hd => rfl); (case hg => rfl); (case hr => first | (go_simp; done) | (go_simp; rfl)); intro gb103 hg w3 hbox hb; have n0_ := J (zak qa hb); have n1_ := J (hbox); have n2_ := J ((by rw [hg]; exact (zav qa) : w.heap.size ≤ gb103)); have n3_ := J ((by rw [hg]; exact (zav qa) : w.heap.size ≤ gb103)); clear HB; have HB := n0_; have BK103 := n1_; have GW103 := n2_; have GE103 := n3_; clear n0_ n1_ n2_ n3_; clear hb hbox hg; have hcz4_0 : w3.cell? ⟨gb103, 0, none⟩ = some (.int .u8 a0_0) := (zaf BK103.out 0).trans rfl; have hcz4_1 : w3.cell? ⟨gb103, 1, none⟩ = some (.int .u8 a0_1) := (zaf BK103.out 1).trans rfl; have hcz4_2 : w3.cell? ⟨gb103, 2, none⟩ = some (.int .i64 a0_2) := (zaf BK103.out 2).trans rfl; have hcz4_3 : w3.cell? ⟨gb103, 3, none⟩ = some (.slice A0_3 l0_3.length c0_3) := (zaf BK103.out 3).trans rfl; have hfz4_0 := zab BK103.out 0; have hfz4_1 := zab BK103.out 1; have hfz4_2 := zab BK103.out 2; have hfz4_3 := zab BK103.out 3))
  go_ret
  exact ⟨qg, qN⟩
 ·rw [if_neg c2] at H
  have c2b0 : decide (0 < (l0_3.length : Int)) = false := decide_eq_false c2; have c2b1 : decide (0 < l0_3.length) = false := decide_eq_false q9
  clear c2; by_cases c5 : a0_0 = 50
  ·rw [if_pos c5] at H
   have c5b0 : (a0_0 == 50) = true := beq_iff_eq.mpr c5; have c5b1 : (a0_0 != 50) = false := bne_eq_false_iff_eq.mpr c5; clear c5; by_cases c6 : a0_2 = 0
   ·rw [if_pos c6] at H
    have c6b0 : (a0_2 == 0) = true := beq_iff_eq.mpr c6; have c6b1 : (a0_2 != 0) = false := bne_eq_false_iff_eq.mpr c6; clear c6; replace H := Option.bind_eq_some_iff.mp H; obtain ⟨t104, A70, H⟩ := H; replace H : (if t104 = true then (some true) else (if a0_1 = 60 then (some true) else (some (a0_1 == 52)))) = some r := H
    have A7 := J A70; clear A70; by_cases c8 : t104 = true
    ·subst c8
     have H1 : (some true) = some r := by rw [if_pos rfl] at H; exact H
     clear H; have H := H1; clear H1; obtain rfl := Option.some.inj H; go_enter Try.func66, Try.ntmps66
     go_wp2_with (first | ((with_reducible refine za2 (N := 1) rfl ?_); refine zbd ?hg (N := 1) ?hd (cs := #[.int .u8 a0_0, .int .u8 a0_1, .int .i64 a0_2, .slice A0_3 l0_3.length c0_3]) (t := 24) ?hr ?_; (case hd => rfl); (case hg => rfl); (case hr => first | (go_simp; done) | (go_simp; rfl)); intro gb103 hg w9 hbox hb; have n0_ := J (zak qa hb); have n1_ := J (hbox); have n2_ := J ((by rw [hg]; exact (zav qa) : w.heap.size ≤ gb103)); have n3_ := J ((by rw [hg]; exact (zav qa) : w.heap.size ≤ gb103)); clear HB; have HB := n0_; have BK103 := n1_; have GW103 := n2_; have GE103 := n3_; clear n0_ n1_ n2_ n3_; clear hb hbox hg; have hcz10_0 : w9.cell? ⟨gb103, 0, none⟩ = some (.int .u8 a0_0) := (zaf BK103.out 0).trans rfl; have hcz10_1 : w9.cell? ⟨gb103, 1, none⟩ = some (.int .u8 a0_1) := (zaf BK103.out 1).trans rfl; have hcz10_2 : w9.cell? ⟨gb103, 2, none⟩ = some (.int .i64 a0_2) := (zaf BK103.out 2).trans rfl; have hcz10_3 : w9.cell? ⟨gb103, 3, none⟩ = some (.slice A0_3 l0_3.length c0_3) := (zaf BK103.out 3).trans rfl; have hfz10_0 := zab BK103.out 0; have hfz10_1 := zab BK103.out 1; have hfz10_2 := zab BK103.out 2; have hfz10_3 := zab BK103.out 3) | (go_at_call 74; (with_reducible refine (zbZ.calls a0_1 true _ A7.out).mono ?_); rintro e w11 ⟨rfl, hb⟩; have n0_ := J (zaG (g := gb103) (o := .cells #[.int .u8 a0_0, .int .u8 a0_1, .int .i64 a0_2, .slice A0_3 l0_3.length c0_3] 24 (0, 0)) Qv hb); have n1_ := J (zak qN hb); clear BK103; clear HB; have BK103 := n0_; have HB := n1_; clear n0_ n1_; (try clear hb); (try clear hb2); (try clear hk); (try clear hi)))
     go_ret
     exact ⟨qg, qN⟩
    ·replace c8 := Bool.eq_false_iff.mpr c8
     subst c8; have H1 : (if a0_1 = 60 then (some true) else (some (a0_1 == 52))) = some r := by rw [if_neg (show ¬ (false = true) by decide)] at H; exact H
     clear H; have H := H1; clear H1; by_cases c12 : a0_1 = 60
     ·rw [if_pos c12] at H
      have c12b0 : (a0_1 == 60) = true := beq_iff_eq.mpr c12; have c12b1 : (a0_1 != 60) = false := bne_eq_false_iff_eq.mpr c12; clear c12; obtain rfl := Option.some.inj H; go_enter Try.func66, Try.ntmps66
      go_wp2_with (first | ((with_reducible refine za2 (N := 1) rfl ?_); refine zbd ?hg (N := 1) ?hd (cs := #[.int .u8 a0_0, .int .u8 a0_1, .int .i64 a0_2, .slice A0_3 l0_3.length c0_3]) (t := 24) ?hr ?_; (case hd => rfl); (case hg => rfl); (case hr => first | (go_simp; done) | (go_simp; rfl)); intro gb103 hg w13 hbox hb; have n0_ := J (zak qa hb); have n1_ := J (hbox); have n2_ := J ((by rw [hg]; exact (zav qa) : w.heap.size ≤ gb103)); have n3_ := J ((by rw [hg]; exact (zav qa) : w.heap.size ≤ gb103)); clear HB; have HB := n0_; have BK103 := n1_; have GW103 := n2_; have GE103 := n3_; clear n0_ n1_ n2_ n3_; clear hb hbox hg; have hcz14_0 : w13.cell? ⟨gb103, 0, none⟩ = some (.int .u8 a0_0) := (zaf BK103.out 0).trans rfl; have hcz14_1 : w13.cell? ⟨gb103, 1, none⟩ = some (.int .u8 a0_1) := (zaf BK103.out 1).trans rfl; have hcz14_2 : w13.cell? ⟨gb103, 2, none⟩ = some (.int .i64 a0_2) := (zaf BK103.out 2).trans rfl; have hcz14_3 : w13.cell? ⟨gb103, 3, none⟩ = some (.slice A0_3 l0_3.length c0_3) := (zaf BK103.out 3).trans rfl; have hfz14_0 := zab BK103.out 0; have hfz14_1 := zab BK103.out 1; have hfz14_2 := zab BK103.out 2; have hfz14_3 := zab BK103.out 3) | (go_at_call 74; (with_reducible refine (zbZ.calls a0_1 false _ A7.out).mono ?_); rintro e w15 ⟨rfl, hb⟩; have n0_ := J (zaG (g := gb103) (o := .cells #[.int .u8 a0_0, .int .u8 a0_1, .int .i64 a0_2, .slice A0_3 l0_3.length c0_3] 24 (0, 0)) Qv hb); have n1_ := J (zak qN hb); clear BK103; clear HB; have BK103 := n0_; have HB := n1_; clear n0_ n1_; (try clear hb); (try clear hb2); (try clear hk); (try clear hi); have hcz16_0 : w15.cell? ⟨gb103, 0, none⟩ = some (.int .u8 a0_0) := (zaf BK103.out 0).trans rfl; have hcz16_1 : w15.cell? ⟨gb103, 1, none⟩ = some (.int .u8 a0_1) := (zaf BK103.out 1).trans rfl; have hcz16_2 : w15.cell? ⟨gb103, 2, none⟩ = some (.int .i64 a0_2) := (zaf BK103.out 2).trans rfl; have hcz16_3 : w15.cell? ⟨gb103, 3, none⟩ = some (.slice A0_3 l0_3.length c0_3) := (zaf BK103.out 3).trans rfl; have hfz16_0 := zab BK103.out 0; have hfz16_1 := zab BK103.out 1; have hfz16_2 := zab BK103.out 2; have hfz16_3 := zab BK103.out 3))
      go_ret
      exact ⟨qg, qN⟩
     ·rw [if_neg c12] at H
      have c12b0 : (a0_1 == 60) = false := beq_eq_false_iff_ne.mpr c12; have c12b1 : (a0_1 != 60) = true := bne_iff_ne.mpr c12; obtain rfl := Option.some.inj H; go_enter Try.func66, Try.ntmps66
      go_wp2_with (first | ((with_reducible refine za2 (N := 1) rfl ?_); refine zbd ?hg (N := 1) ?hd (cs := #[.int .u8 a0_0, .int .u8 a0_1, .int .i64 a0_2, .slice A0_3 l0_3.length c0_3]) (t := 24) ?hr ?_; (case hd => rfl); (case hg => rfl); (case hr => first | (go_simp; done) | (go_simp; rfl)); intro gb103 hg w17 hbox hb; have n0_ := J (zak qa hb); have n1_ := J (hbox); have n2_ := J ((by rw [hg]; exact (zav qa) : w.heap.size ≤ gb103)); have n3_ := J ((by rw [hg]; exact (zav qa) : w.heap.size ≤ gb103)); clear HB; have HB := n0_; have BK103 := n1_; have GW103 := n2_; have GE103 := n3_; clear n0_ n1_ n2_ n3_; clear hb hbox hg; have hcz18_0 : w17.cell? ⟨gb103, 0, none⟩ = some (.int .u8 a0_0) := (zaf BK103.out 0).trans rfl; have hcz18_1 : w17.cell? ⟨gb103, 1, none⟩ = some (.int .u8 a0_1) := (zaf BK103.out 1).trans rfl; have hcz18_2 : w17.cell? ⟨gb103, 2, none⟩ = some (.int .i64 a0_2) := (zaf BK103.out 2).trans rfl; have hcz18_3 : w17.cell? ⟨gb103, 3, none⟩ = some (.slice A0_3 l0_3.length c0_3) := (zaf BK103.out 3).trans rfl; have hfz18_0 := zab BK103.out 0; have hfz18_1 := zab BK103.out 1; have hfz18_2 := zab BK103.out 2; have hfz18_3 := zab BK103.out 3) | (go_at_call 74; (with_reducible refine (zbZ.calls a0_1 false _ A7.out).mono ?_); rintro e w19 ⟨rfl, hb⟩; have n0_ := J (zaG (g := gb103) (o := .cells #[.int .u8 a0_0, .int .u8 a0_1, .int .i64 a0_2, .slice A0_3 l0_3.length c0_3] 24 (0, 0)) Qv hb); have n1_ := J (zak qN hb); clear BK103; clear HB; have BK103 := n0_; have HB := n1_; clear n0_ n1_; (try clear hb); (try clear hb2); (try clear hk); (try clear hi); have hcz20_0 : w19.cell? ⟨gb103, 0, none⟩ = some (.int .u8 a0_0) := (zaf BK103.out 0).trans rfl; have hcz20_1 : w19.cell? ⟨gb103, 1, none⟩ = some (.int .u8 a0_1) := (zaf BK103.out 1).trans rfl; have hcz20_2 : w19.cell? ⟨gb103, 2, none⟩ = some (.int .i64 a0_2) := (zaf BK103.out 2).trans rfl; have hcz20_3 : w19.cell? ⟨gb103, 3, none⟩ = some (.slice A0_3 l0_3.length c0_3) := (zaf BK103.out 3).trans rfl; have hfz20_0 := zab BK103.out 0; have hfz20_1 := zab BK103.out 1; have hfz20_2 := zab BK103.out 2; have hfz20_3 := zab BK103.out 3))
      go_ret
      exact ⟨qg, qN⟩
   ·rw [if_neg c6] at H
    have c6b0 : (a0_2 == 0) = false := beq_eq_false_iff_ne.mpr c6; have c6b1 : (a0_2 != 0) = true := bne_iff_ne.mpr c6; obtain rfl := Option.some.inj H; go_enter Try.func66, Try.ntmps66
    go_wp2_with (first | ((with_reducible refine za2 (N := 1) rfl ?_); refine zbd ?hg (N := 1) ?hd (cs := #[.int .u8 a0_0, .int .u8 a0_1, .int .i64 a0_2, .slice A0_3 l0_3.length c0_3]) (t := 24) ?hr ?_; (case hd => rfl); (case hg => rfl); (case hr => first | (go_simp; done) | (go_simp; rfl)); intro gb103 hg w21 hbox hb; have n0_ := J (zak qa hb); have n1_ := J (hbox); have n2_ := J ((by rw [hg]; exact (zav qa) : w.heap.size ≤ gb103)); have n3_ := J ((by rw [hg]; exact (zav qa) : w.heap.size ≤ gb103)); clear HB; have HB := n0_; have BK103 := n1_; have GW103 := n2_; have GE103 := n3_; clear n0_ n1_ n2_ n3_; clear hb hbox hg; have hcz22_0 : w21.cell? ⟨gb103, 0, none⟩ = some (.int .u8 a0_0) := (zaf BK103.out 0).trans rfl; have hcz22_1 : w21.cell? ⟨gb103, 1, none⟩ = some (.int .u8 a0_1) := (zaf BK103.out 1).trans rfl; have hcz22_2 : w21.cell? ⟨gb103, 2, none⟩ = some (.int .i64 a0_2) := (zaf BK103.out 2).trans rfl; have hcz22_3 : w21.cell? ⟨gb103, 3, none⟩ = some (.slice A0_3 l0_3.length c0_3) := (zaf BK103.out 3).trans rfl; have hfz22_0 := zab BK103.out 0; have hfz22_1 := zab BK103.out 1; have hfz22_2 := zab BK103.out 2; have hfz22_3 := zab BK103.out 3))
    go_ret
    exact ⟨qg, qN⟩
  ·rw [if_neg c5] at H
   have c5b0 : (a0_0 == 50) = false := beq_eq_false_iff_ne.mpr c5; have c5b1 : (a0_0 != 50) = true := bne_iff_ne.mpr c5; replace H := Option.bind_eq_some_iff.mp H; obtain ⟨t105, A230, H⟩ := H; replace H : (if t105 = true then (if a0_2 ≥ 1 then (if a0_2 ≤ 1099511627776 then (some (a0_1 == 0)) else (some false)) else (some false)) else (some false)) = some r := H
   have A23 := J A230; clear A230; by_cases c24 : t105 = true
   ·subst c24
    have H1 : (if a0_2 ≥ 1 then (if a0_2 ≤ 1099511627776 then (some (a0_1 == 0)) else (some false)) else (some false)) = some r := by rw [if_pos rfl] at H; exact H
    clear H; have H := H1; clear H1; by_cases c25 : a0_2 ≥ 1
    ·rw [if_pos c25] at H
     have c25b0 : decide (1 ≤ a0_2) = true := decide_eq_true c25; clear c25; by_cases c26 : a0_2 ≤ 1099511627776
     ·rw [if_pos c26] at H
      have c26b0 : decide (a0_2 ≤ 1099511627776) = true := decide_eq_true c26; clear c26; obtain rfl := Option.some.inj H; go_enter Try.func66, Try.ntmps66
      go_wp2_with (first | ((with_reducible refine za2 (N := 1) rfl ?_); refine zbd ?hg (N := 1) ?hd (cs := #[.int .u8 a0_0, .int .u8 a0_1, .int .i64 a0_2, .slice A0_3 l0_3.length c0_3]) (t := 24) ?hr ?_; (case hd => rfl); (case hg => rfl); (case hr => first | (go_simp; done) | (go_simp; rfl)); intro gb103 hg w27 hbox hb; have n0_ := J (zak qa hb); have n1_ := J (hbox); have n2_ := J ((by rw [hg]; exact (zav qa) : w.heap.size ≤ gb103)); have n3_ := J ((by rw [hg]; exact (zav qa) : w.heap.size ≤ gb103)); clear HB; have HB := n0_; have BK103 := n1_; have GW103 := n2_; have GE103 := n3_; clear n0_ n1_ n2_ n3_; clear hb hbox hg; have hcz28_0 : w27.cell? ⟨gb103, 0, none⟩ = some (.int .u8 a0_0) := (zaf BK103.out 0).trans rfl; have hcz28_1 : w27.cell? ⟨gb103, 1, none⟩ = some (.int .u8 a0_1) := (zaf BK103.out 1).trans rfl; have hcz28_2 : w27.cell? ⟨gb103, 2, none⟩ = some (.int .i64 a0_2) := (zaf BK103.out 2).trans rfl; have hcz28_3 : w27.cell? ⟨gb103, 3, none⟩ = some (.slice A0_3 l0_3.length c0_3) := (zaf BK103.out 3).trans rfl; have hfz28_0 := zab BK103.out 0; have hfz28_1 := zab BK103.out 1; have hfz28_2 := zab BK103.out 2; have hfz28_3 := zab BK103.out 3) | ((with_reducible refine zaK (f := 75) rfl ?_); refine zbc (some 30) rfl rfl Try.func75 qb rfl #[.int .u8 a0_0] rfl qi ?_; (with_reducible refine (zbE.calls a0_0 true _ A23.out).mono ?_); rintro e w' ⟨rfl, ⟨nd, rfl⟩⟩; refine ⟨_, rfl, ?_⟩))
      go_ret
      exact ⟨qg, qN⟩
     ·rw [if_neg c26] at H
      have c26b0 : decide (a0_2 ≤ 1099511627776) = false := decide_eq_false c26; clear c26; obtain rfl := Option.some.inj H; go_enter Try.func66, Try.ntmps66
      go_wp2_with (first | ((with_reducible refine za2 (N := 1) rfl ?_); refine zbd ?hg (N := 1) ?hd (cs := #[.int .u8 a0_0, .int .u8 a0_1, .int .i64 a0_2, .slice A0_3 l0_3.length c0_3]) (t := 24) ?hr ?_; (case hd => rfl); (case hg => rfl); (case hr => first | (go_simp; done) | (go_simp; rfl)); intro gb103 hg w29 hbox hb; have n0_ := J (zak qa hb); have n1_ := J (hbox); have n2_ := J ((by rw [hg]; exact (zav qa) : w.heap.size ≤ gb103)); have n3_ := J ((by rw [hg]; exact (zav qa) : w.heap.size ≤ gb103)); clear HB; have HB := n0_; have BK103 := n1_; have GW103 := n2_; have GE103 := n3_; clear n0_ n1_ n2_ n3_; clear hb hbox hg; have hcz30_0 : w29.cell? ⟨gb103, 0, none⟩ = some (.int .u8 a0_0) := (zaf BK103.out 0).trans rfl; have hcz30_1 : w29.cell? ⟨gb103, 1, none⟩ = some (.int .u8 a0_1) := (zaf BK103.out 1).trans rfl; have hcz30_2 : w29.cell? ⟨gb103, 2, none⟩ = some (.int .i64 a0_2) := (zaf BK103.out 2).trans rfl; have hcz30_3 : w29.cell? ⟨gb103, 3, none⟩ = some (.slice A0_3 l0_3.length c0_3) := (zaf BK103.out 3).trans rfl; have hfz30_0 := zab BK103.out 0; have hfz30_1 := zab BK103.out 1; have hfz30_2 := zab BK103.out 2; have hfz30_3 := zab BK103.out 3) | ((with_reducible refine zaK (f := 75) rfl ?_); refine zbc (some 30) rfl rfl Try.func75 qb rfl #[.int .u8 a0_0] rfl qi ?_; (with_reducible refine (zbE.calls a0_0 true _ A23.out).mono ?_); rintro e w' ⟨rfl, ⟨nd, rfl⟩⟩; refine ⟨_, rfl, ?_⟩))
      go_ret
      exact ⟨qg, qN⟩
    ·rw [if_neg c25] at H
     have c25b0 : decide (1 ≤ a0_2) = false := decide_eq_false c25; clear c25; obtain rfl := Option.some.inj H; go_enter Try.func66, Try.ntmps66
     go_wp2_with (first | ((with_reducible refine za2 (N := 1) rfl ?_); refine zbd ?hg (N := 1) ?hd (cs := #[.int .u8 a0_0, .int .u8 a0_1, .int .i64 a0_2, .slice A0_3 l0_3.length c0_3]) (t := 24) ?hr ?_; (case hd => rfl); (case hg => rfl); (case hr => first | (go_simp; done) | (go_simp; rfl)); intro gb103 hg w31 hbox hb; have n0_ := J (zak qa hb); have n1_ := J (hbox); have n2_ := J ((by rw [hg]; exact (zav qa) : w.heap.size ≤ gb103)); have n3_ := J ((by rw [hg]; exact (zav qa) : w.heap.size ≤ gb103)); clear HB; have HB := n0_; have BK103 := n1_; have GW103 := n2_; have GE103 := n3_; clear n0_ n1_ n2_ n3_; clear hb hbox hg; have hcz32_0 : w31.cell? ⟨gb103, 0, none⟩ = some (.int .u8 a0_0) := (zaf BK103.out 0).trans rfl; have hcz32_1 : w31.cell? ⟨gb103, 1, none⟩ = some (.int .u8 a0_1) := (zaf BK103.out 1).trans rfl; have hcz32_2 : w31.cell? ⟨gb103, 2, none⟩ = some (.int .i64 a0_2) := (zaf BK103.out 2).trans rfl; have hcz32_3 : w31.cell? ⟨gb103, 3, none⟩ = some (.slice A0_3 l0_3.length c0_3) := (zaf BK103.out 3).trans rfl; have hfz32_0 := zab BK103.out 0; have hfz32_1 := zab BK103.out 1; have hfz32_2 := zab BK103.out 2; have hfz32_3 := zab BK103.out 3) | ((with_reducible refine zaK (f := 75) rfl ?_); refine zbc (some 30) rfl rfl Try.func75 qb rfl #[.int .u8 a0_0] rfl qi ?_; (with_reducible refine (zbE.calls a0_0 true _ A23.out).mono ?_); rintro e w' ⟨rfl, ⟨nd, rfl⟩⟩; refine ⟨_, rfl, ?_⟩))
     go_ret
     exact ⟨qg, qN⟩
   ·replace c24 := Bool.eq_false_iff.mpr c24
    subst c24; have H1 : (some false) = some r := by rw [if_neg (show ¬ (false = true) by decide)] at H; exact H
    clear H; have H := H1; clear H1; obtain rfl := Option.some.inj H; go_enter Try.func66, Try.ntmps66
    go_wp2_with (first | ((with_reducible refine za2 (N := 1) rfl ?_); refine zbd ?hg (N := 1) ?hd (cs := #[.int .u8 a0_0, .int .u8 a0_1, .int .i64 a0_2, .slice A0_3 l0_3.length c0_3]) (t := 24) ?hr ?_; (case hd => rfl); (case hg => rfl); (case hr => first | (go_simp; done) | (go_simp; rfl)); intro gb103 hg w33 hbox hb; have n0_ := J (zak qa hb); have n1_ := J (hbox); have n2_ := J ((by rw [hg]; exact (zav qa) : w.heap.size ≤ gb103)); have n3_ := J ((by rw [hg]; exact (zav qa) : w.heap.size ≤ gb103)); clear HB; have HB := n0_; have BK103 := n1_; have GW103 := n2_; have GE103 := n3_; clear n0_ n1_ n2_ n3_; clear hb hbox hg; have hcz34_0 : w33.cell? ⟨gb103, 0, none⟩ = some (.int .u8 a0_0) := (zaf BK103.out 0).trans rfl; have hcz34_1 : w33.cell? ⟨gb103, 1, none⟩ = some (.int .u8 a0_1) := (zaf BK103.out 1).trans rfl; have hcz34_2 : w33.cell? ⟨gb103, 2, none⟩ = some (.int .i64 a0_2) := (zaf BK103.out 2).trans rfl; have hcz34_3 : w33.cell? ⟨gb103, 3, none⟩ = some (.slice A0_3 l0_3.length c0_3) := (zaf BK103.out 3).trans rfl; have hfz34_0 := zab BK103.out 0; have hfz34_1 := zab BK103.out 1; have hfz34_2 := zab BK103.out 2; have hfz34_3 := zab BK103.out 3) | ((with_reducible refine zaK (f := 75) rfl ?_); refine zbc (some 30) rfl rfl Try.func75 qb rfl #[.int .u8 a0_0] rfl qi ?_; (with_reducible refine (zbE.calls a0_0 false _ A23.out).mono ?_); rintro e w' ⟨rfl, ⟨nd, rfl⟩⟩; refine ⟨_, rfl, ?_⟩))
    go_ret
    exact ⟨qg, qN⟩
end
def leafB (k w wd : Int) (kids : List S24) : Bool := (tree_leaf.f k w wd kids).getD false
theorem ite_some {α : Type} {c : Prop} [Decidable c] {p q : Option α} (hp : ∃ b, p = some b) (hq : ∃ b, q = some b) : ∃ b, (if c then p else q) = some b := by
 split <;> assumption
theorem leaf_some (k w wd : Int) (kids : List S24) : tree_leaf.f k w wd kids = some (leafB k w wd kids) := by
 have ht : ∀ x, ∃ b, zbE.f x = some b := fun x => by
  unfold zbE.f
  repeat' (first | exact ⟨_, rfl⟩ | refine ite_some ?_ ?_)
 have : ∃ b, tree_leaf.f k w wd kids = some b := by
  unfold tree_leaf.f zbZ.f
  obtain ⟨b, hb⟩ := ht k; rw [hb]; simp only [Option.bind_some]; repeat' (first | exact ⟨_, rfl⟩ | refine ite_some ?_ ?_)
 obtain ⟨b, hb⟩ := this; unfold leafB
 rw [hb]
 rfl
mutual
def mayN : S24 → Int → Int → Int × Bool
 | ⟨k, w, wd, kids⟩, at_, c =>
  if wrap64 (c + 1) > 1048576 then (wrap64 (c + 1), false)
  else if at_ > 65536 then (wrap64 (c + 1), false)
  else if k ≤ 50 then (wrap64 (c + 1), leafB k w wd kids)
  else if k > 68 then (wrap64 (c + 1), false)
  else if w ≠ 0 then (wrap64 (c + 1), false)
  else if k = 51 ∧ at_ > 1 then (wrap64 (c + 1), false)
  else match mayL kids at_ (wrap64 (c + 1)) 0 with
   | (c', none) => (c', false)
   | (c', some sum) => (c', decide (sum = wd) && decide (sum ≤ 1099511627776))
def mayL : List S24 → Int → Int → Int → Int × Option Int
 | [], _, c, sum => (c, some sum)
 | t :: r, at_, c, sum => match mayN t (wrap64 (at_ + 1)) c with
  | (c', false) => (c', none)
  | (c', true) => mayL r at_ c' (wrap64 (sum + t.f2))
end
def tree_Right.f (k w wd : Int) (kids : List S24) : Option Bool := some (mayN ⟨k, w, wd, kids⟩ 1 0).2
theorem heap24 : Kd.Heap k24 := Kd.heap_fix (fun d hd => Kd.heap_iso _ (Kd.heap_pair (Kd.heap_int _) (Kd.heap_pair (Kd.heap_int _) (Kd.heap_pair (Kd.heap_int _) (Kd.heap_slice _ hd)))))
theorem at_T24F {w : World} {ok : Nat → Prop} {A : Option Addr} {n : Nat} {xs : List S24} (h : Kd.F k24 w ok A n xs) (i : Nat) (h1 : i < n) : ∃ ad A3 c3, A = some ad ∧ w.cell? (ad.add (i * 4)) = some (.int .u8 (za6 xs i).f0) ∧ w.cell? ⟨(ad.add (i * 4)).block, (ad.add (i * 4)).off + 1, none⟩ = some (.int .u8 (za6 xs i).f1) ∧ w.cell? ⟨(ad.add (i * 4)).block, (ad.add (i * 4)).off + 2, none⟩ = some (.int .i64 (za6 xs i).f2) ∧ w.cell? ⟨(ad.add (i * 4)).block, (ad.add (i * 4)).off + 3, none⟩ = some (.slice A3 (za6 xs i).f3.length c3) ∧ (za6 xs i).f3.length ≤ c3 ∧ Kd.F k24 w ok A3 (za6 xs i).f3.length (za6 xs i).f3 := by
 obtain ⟨ad, cs, he, _, hK, hc0, _⟩ := Kd.F_get h z24 (i : Int) q9 q9
 have hc : ∀ j u, cs[j]? = some u → w.cell? (ad.add (i * 4 + j)) = some u := hc0; have hK' : Kd.FK k24 w ok (za6 xs i) cs := hK; obtain ⟨A3, c3, rfl, l3, g3⟩ := k24_openF hK'; exact ⟨ad, A3, c3, he, hc 0 _ rfl, Q7, Qb, by rw [← zbm _ _ 3 q9]; exact hc 3 _ rfl, l3, g3⟩
theorem rd_at24 (xs : List S24) (i : Nat) (h : i < xs.length) : za6 xs i = xs[i] := by
 simp [za6, List.getD_eq_getElem?_getD, List.getElem?_eq_getElem h]
theorem grown_alloc {W W1 : World} {row : Option Nat} (h : W.grownBy W1 row) (o : Obj) : W.grownBy (W1.alloc o) row := World.grownBy.trans h (World.grownBy_alloc _ _ _)
abbrev one1 (v : Value) (t : Nat) : Obj := .cells #[v] t (0, 0)
abbrev mayV (g3 g4 : Nat) : Value := .func (.func 65) #[] #[.pointer (some ⟨g3, 0, none⟩), .pointer (some ⟨g4, 0, none⟩)]
def MayPost (t : S24) (at_ c : Int) (g3 : Nat) (W : World) (e : Ending) (W' : World) : Prop :=
 e = .returned (.bool (mayN t at_ c).2) ∧ W.grownBy W' (some g3) ∧ W'.heap[g3]? = some (one1 (.int .i64 (mayN t at_ c).1) 3)
theorem may_calls (n : Nat) : ∀ (t : S24), SizeOf.sizeOf t < n → ∀ (at_ c : Int) (A : Option Addr) (cp : Nat) (W : World) (g3 g4 : Nat), g3 ≠ g4 → W.heap[g3]? = some (one1 (.int .i64 c) 3) → W.heap[g4]? = some (one1 (mayV g3 g4) 120) →
  Kd.F k24 W (fun k => k ≠ g3) A t.f3.length t.f3 → t.f3.length ≤ cp →
  Calls Try.prog 65 #[.agg #[.int .u8 t.f0, .int .u8 t.f1, .int .i64 t.f2, .slice A t.f3.length cp], .int .i64 at_, .pointer (some ⟨g3, 0, none⟩), .pointer (some ⟨g4, 0, none⟩)] W (MayPost t at_ c g3 W) := by
 induction n with
 | zero => intro t h; exact absurd h (Nat.not_lt_zero _)
 | succ n ih =>
 rintro ⟨k, w, wd, kids⟩ ht at_ c A cp W g3 g4 hne h3 h4 hF hcp
 simp only at hF hcp ⊢; have hl3 : g3 < W.heap.size := zaN h3; have hl4 : g4 < W.heap.size := zaN h4; have HT := J ht; have IH := J ih; have HF := J hF; have HCP := J hcp; have H3 := J h3; have H4 := J h4; have hk3 := zaf h3 0; have hf3 := zab h3 0; simp at hk3; clear ht ih hF hcp h4 h3; have hu := Try.underlying24; go_enter Try.func65, Try.ntmps65
 go_upto_region 2 with (fail)
 obtain ⟨c1, hc1⟩ : ∃ c1, c1 = wrap64 (c + 1) := ⟨_, rfl⟩; rw [← hc1]; obtain ⟨W1, hW1⟩ : ∃ W1, W1 = (W.setCell ⟨g3, 0, none⟩ (.int .i64 c1)).alloc (.cells #[.int .u8 k, .int .u8 w, .int .i64 wd, .slice A kids.length cp] 24) := ⟨_, rfl⟩; rw [← hW1]; have hs : (W.setCell ⟨g3, 0, none⟩ (.int .i64 c1)).heap.size = W.heap.size := by simp
 have HX := J (show W1.heap[W.heap.size]? = some (.cells #[.int .u8 k, .int .u8 w, .int .i64 wd, .slice A kids.length cp] 24 (0, 0)) by rw [hW1, ← hs]; exact heap_alloc_new _ _)
 have HY3 := J (show W1.heap[g3]? = some (one1 (.int .i64 c1) 3) by rw [hW1, Below.heap_alloc _ _ _ (by rw [hs]; exact hl3)]; exact zbe H3.out 0 _)
 have HG := J (show W.grownBy W1 (some g3) by
  rw [hW1]; refine ⟨rfl, rfl, rfl, qf, fun q hq hne' => ?_⟩
  rw [Below.heap_alloc _ _ _ (by rw [hs]; exact hq)]
  exact Below.heap_setCell _ _ _ _ (fun e => hne' (by rw [e])))
 have HY4 := J ((HG.out.block g4 hl4 (fun e => hne (Option.some.inj e).symm)).trans H4.out)
 have HF1 := J (Kd.F_grown HF.out HG.out (fun q hq e => hq (Option.some.inj e)))
 have hlb : W.heap.size < W1.heap.size := zaN HX.out; have hneb : g3 ≠ W.heap.size := by omega
 have hkb0 := zaf HX.out 0; have hkb1 := zaf HX.out 1; have hkb2 := zaf HX.out 2; have hkb3 := zaf HX.out 3; have hk3' := zaf HY3.out 0; simp at hkb0 hkb1 hkb2 hkb3 hk3'; clear hW1 hs hk3 hf3 H3 H4 HF; have HM := J (show mayN ⟨k, w, wd, kids⟩ at_ c = if c1 > 1048576 then (c1, false) else if at_ > 65536 then (c1, false) else if k ≤ 50 then (c1, leafB k w wd kids) else if k > 68 then (c1, false) else if w ≠ 0 then (c1, false) else if k = 51 ∧ at_ > 1 then (c1, false)
   else match mayL kids at_ c1 0 with | (c', none) => (c', false) | (c', some sum) => (c', decide (sum = wd) && decide (sum ≤ 1099511627776)) by rw [hc1]; simp only [mayN])
 clear hc1; have fin : ∀ (b : Bool) (W' : World) (c' : Int), mayN ⟨k, w, wd, kids⟩ at_ c = (c', b) → W1.grownBy W' (some g3) → W'.heap[g3]? = some (one1 (.int .i64 c') 3) → MayPost ⟨k, w, wd, kids⟩ at_ c g3 W (.returned (.bool b)) W' := by
  intro b W' c' e g h
  refine ⟨by rw [e], World.grownBy.trans HG.out g, by rw [e]; exact h⟩
 have FIN := J fin; clear fin; by_cases t1 : c1 > 1048576
 ·have HM2 := J (show mayN ⟨k, w, wd, kids⟩ at_ c = (c1, false) by rw [HM.out, if_pos t1])
  have b1 : decide (1048576 < c1) = true := decide_eq_true t1; clear HM t1; go_wp2
  go_ret
  exact FIN.out _ _ _ HM2.out (World.grownBy.refl _ _) HY3.out
 have b1 : decide (1048576 < c1) = false := decide_eq_false t1; by_cases t2 : at_ > 65536
 ·have HM2 := J (show mayN ⟨k, w, wd, kids⟩ at_ c = (c1, false) by rw [HM.out, if_neg t1, if_pos t2])
  have b2 : decide (65536 < at_) = true := decide_eq_true t2; clear HM t1 t2; go_wp2
  go_ret
  exact FIN.out _ _ _ HM2.out (World.grownBy.refl _ _) HY3.out
 have b2 : decide (65536 < at_) = false := decide_eq_false t2; by_cases t3 : k ≤ 50
 ·have HM2 := J (show mayN ⟨k, w, wd, kids⟩ at_ c = (c1, leafB k w wd kids) by rw [HM.out, if_neg t1, if_neg t2, if_pos t3])
  have b3 : decide (k ≤ 50) = true := decide_eq_true t3; have HL := J (leaf_some k w wd kids); obtain ⟨q, hq⟩ : ∃ q, q = leafB k w wd kids := ⟨_, rfl⟩; rw [← hq] at HM2 HL; clear HM t1 t2 t3 hq; go_wp2_with (go_at_call 66; refine (tree_leaf.calls k w wd A cp kids q _ (Kd.F_now HF1.out) HCP.out HL.out).mono ?_; rintro e w1 ⟨rfl, hb⟩; have HB := J hb; clear hb)
  go_ret
  exact FIN.out _ _ _ HM2.out (grown_of_below HB.out _) ((HB.out.block _ (zaN HY3.out)).trans HY3.out)
 have b3 : decide (k ≤ 50) = false := decide_eq_false t3; by_cases t4 : k > 68
 ·have HM2 := J (show mayN ⟨k, w, wd, kids⟩ at_ c = (c1, false) by rw [HM.out, if_neg t1, if_neg t2, if_neg t3, if_pos t4])
  have b4 : decide (68 < k) = true := decide_eq_true t4; clear HM t1 t2 t3 t4; go_wp2
  go_ret
  exact FIN.out _ _ _ HM2.out (World.grownBy.refl _ _) HY3.out
 have b4 : decide (68 < k) = false := decide_eq_false t4; by_cases t5 : w = 0
 case neg =>
  have HM2 := J (show mayN ⟨k, w, wd, kids⟩ at_ c = (c1, false) by rw [HM.out, if_neg t1, if_neg t2, if_neg t3, if_neg t4, if_pos t5])
  have b5 : (w != 0) = true := bne_iff_ne.mpr t5; have b5' : (w == 0) = false := beq_eq_false_iff_ne.mpr t5; clear HM t1 t2 t3 t4 t5; go_wp2
  go_ret
  exact FIN.out _ _ _ HM2.out (World.grownBy.refl _ _) HY3.out
 have b5 : (w != 0) = false := bne_eq_false_iff_eq.mpr t5; have b5' : (w == 0) = true := beq_iff_eq.mpr t5; by_cases t6 : k = 51 ∧ at_ > 1
 ·have HM2 := J (show mayN ⟨k, w, wd, kids⟩ at_ c = (c1, false) by rw [HM.out, if_neg t1, if_neg t2, if_neg t3, if_neg t4, if_neg (by simpa using t5), if_pos t6])
  have b6 : (k == 51) = true := beq_iff_eq.mpr t6.1; have b7 : decide (1 < at_) = true := decide_eq_true t6.2; clear HM t1 t2 t3 t4 t5 t6; go_wp2
  go_ret
  exact FIN.out _ _ _ HM2.out (World.grownBy.refl _ _) HY3.out
 have HM2 := J (show mayN ⟨k, w, wd, kids⟩ at_ c = _ by rw [HM.out, if_neg t1, if_neg t2, if_neg t3, if_neg t4, if_neg (by simpa using t5), if_neg t6])
 have hm : kids.length ≤ 9223372036854775807 := Kd.F_max HF1.out; obtain ⟨q6, hq6⟩ : ∃ q6, q6 = (k == 51) := ⟨_, rfl⟩; have b67 : (q6 = true ∧ (k == 51) = true ∧ decide (1 < at_) = false) ∨ (q6 = false ∧ (k == 51) = false) := by
  rw [hq6]; by_cases e : k = 51
  ·exact .inl ⟨beq_iff_eq.mpr e, beq_iff_eq.mpr e, decide_eq_false (fun h => t6 ⟨e, h⟩)⟩
  ·exact .inr ⟨beq_eq_false_iff_ne.mpr e, beq_eq_false_iff_ne.mpr e⟩
 clear HM t1 t2 t3 t4 t5 t6 hq6; have hq := fun (t : S24) (h : t ∈ kids) => (show SizeOf.sizeOf t < n by
  have h1 := List.sizeOf_lt_of_mem h; have h2 := HT.out; simp only [S24.mk.sizeOf_spec] at h2; omega)
 have HQ := J hq; clear hq HT; rcases b67 with ⟨_, b6, b7⟩ | ⟨_, b6⟩
 all_goals
  go_wp2
  go_loopg [7, 43] kids.length (fun kq v7 v43 w' => ∃ (i : Nat) (c' sum : Int), v43 = .int .i64 i ∧ v7 = .int .i64 sum ∧ i ≤ kids.length ∧ zaa (kq = kids.length - i) ∧ zaa (W1.grownBy w' (some g3)) ∧ zaa (w'.heap[g3]? = some (one1 (.int .i64 c') 3)) ∧ zaa (mayL kids at_ c1 0 = mayL (kids.drop i) at_ c' sum))
  case atStart => exact ⟨0, c1, 0, rfl, rfl, Nat.zero_le _, ⟨rfl⟩, ⟨World.grownBy.refl _ _⟩, HY3, ⟨rfl⟩⟩
  case round =>
   clear hkb0 hkb1 hkb2 hkb3 hk3'; obtain ⟨i, c', sum, rfl, rfl, hi, HK, HGR, HC3, HL⟩ := hrel; have hX' := (HGR.out.block _ hlb (fun e => hneb (Option.some.inj e).symm)).trans HX.out
   have hkb0 := zaf hX' 0; have hkb1 := zaf hX' 1; have hkb2 := zaf hX' 2; have hkb3 := zaf hX' 3; have hY4' := (HGR.out.block g4 (zaN HY4.out) (fun e => hne (Option.some.inj e).symm)).trans HY4.out
   have hk4 := zaf hY4' 0; simp at hkb0 hkb1 hkb2 hkb3 hk4; have HX' := J hX'; have HY4' := J hY4'; clear hX' hY4'; have HF' := J (Kd.F_grown HF1.out HGR.out (fun q hq e => hq (Option.some.inj e)))
   by_cases hlt : i < kids.length
   ·obtain ⟨ad, A3, c3, e, g0, g1, g2, gg3, gl, gF⟩ := at_T24F HF'.out i hlt
    subst e; obtain ⟨t, hts⟩ : ∃ t, t = za6 kids i := ⟨_, rfl⟩; rw [← hts] at g0 g1 g2 gg3 gl gF; have HMEM := J (show t ∈ kids by rw [hts, rd_at24 kids i hlt]; exact List.getElem_mem hlt)
    have HL2 := J (show mayL kids at_ c1 0 = match mayN t (wrap64 (at_ + 1)) c' with | (c', false) => (c', none) | (c', true) => mayL (kids.drop (i + 1)) at_ c' (wrap64 (sum + t.f2)) by
     rw [HL.out, List.drop_eq_getElem_cons hlt, mayL, hts, rd_at24 kids i hlt])
    have GF := J gF; have GL := J gl; clear HL hts gF gl; obtain ⟨tk, tw, twd, tks⟩ := t; simp only at g0 g1 g2 gg3; obtain ⟨r, hr⟩ : ∃ r, r = mayN ⟨tk, tw, twd, tks⟩ (wrap64 (at_ + 1)) c' := ⟨_, rfl⟩; obtain ⟨rc, rb⟩ := r; rw [← hr] at HL2; have HR := J hr.symm; clear hr; have hlw : wr.heap.size < wr.heap.size + 1 := Nat.lt_succ_self _; have hg3w : g3 < wr.heap.size := zaN HC3.out; have hg3ne : g3 ≠ wr.heap.size := by omega
    have hg4w : g4 < wr.heap.size := zaN HY4'.out; have hcall := fun (W2 : World) (hW2 : Below wr.heap.size wr W2) (cp : Nat) (hcp : tks.length ≤ cp) (hA : Kd.F k24 wr (fun k => k ≠ g3) A3 tks.length tks) => IH.out ⟨tk, tw, twd, tks⟩ (HQ.out _ HMEM.out) (wrap64 (at_ + 1)) c' A3 cp W2 g3 g4 hne ((hW2.block _ (zaN HC3.out)).trans HC3.out) ((hW2.block _ (zaN HY4'.out)).trans HY4'.out) (Kd.F_below hA hW2) hcp
    have HCALL := J hcall; clear hcall; cases rb with
    | true =>
     go_wp2_with (go_at_call 65; refine (HCALL.out _ (zad (Below.refl _ _) _) _ GL.out GF.out).mono ?_; rintro e w1 ⟨rfl, hg, h3⟩; rw [HR.out] at h3 ⊢; have HG1 := J hg; have H31 := J h3; have hbx := (hg.block wr.heap.size qf (fun e => hg3ne (Option.some.inj e).symm)).trans (heap_alloc_new wr _); have hb2 := zaf hbx 2; simp at hb2; clear hg h3 hbx)
     go_roundg (kids.length - (i + 1))
     case measure => have := HK.out; omega
     case rel => exact ⟨i + 1, rc, wrap64 (sum + twd), qk, rfl, q9, ⟨rfl⟩, ⟨World.grownBy.trans (grown_alloc HGR.out _) HG1.out⟩, H31, ⟨HL2.out⟩⟩
    | false =>
     have HM3 := J (show mayN ⟨k, w, wd, kids⟩ at_ c = (rc, false) by rw [HM2.out, HL2.out])
     go_wp2_with (go_at_call 65; refine (HCALL.out _ (zad (Below.refl _ _) _) _ GL.out GF.out).mono ?_; rintro e w1 ⟨rfl, hg, h3⟩; rw [HR.out] at h3 ⊢; have HG1 := J hg; have H31 := J h3; clear hg h3)
     go_ret
     exact FIN.out _ _ _ HM3.out (World.grownBy.trans (grown_alloc HGR.out _) HG1.out) H31.out
   ·have hi2 : kids.length ≤ i := Nat.not_lt.1 hlt
    have HM3 := J (show mayN ⟨k, w, wd, kids⟩ at_ c = (c', decide (sum = wd) && decide (sum ≤ 1099511627776)) by
     rw [HM2.out, HL.out, List.drop_eq_nil_of_le hi2, mayL])
    by_cases s1 : sum = wd
    ·have d1 : (sum == wd) = true := beq_iff_eq.mpr s1
     have HM4 := J (show mayN ⟨k, w, wd, kids⟩ at_ c = (c', decide (sum ≤ 1099511627776)) by rw [HM3.out, decide_eq_true s1, Bool.true_and])
     clear s1 HM3; go_wp2
     go_ret
     exact FIN.out _ _ _ HM4.out HGR.out HC3.out
    ·have d1 : (sum == wd) = false := beq_eq_false_iff_ne.mpr s1
     have HM4 := J (show mayN ⟨k, w, wd, kids⟩ at_ c = (c', false) by rw [HM3.out, decide_eq_false s1, Bool.false_and])
     clear s1 HM3; go_wp2
     go_ret
     exact FIN.out _ _ _ HM4.out HGR.out HC3.out
theorem wrap_id {x : Int} (h0 : -9223372036854775808 ≤ x) (h1 : x ≤ 9223372036854775807) : wrap64 x = x := by unfold wrap64; omega
theorem Ev.const {α : Type} {o : Option α} {r : α} (h : o = some r) : Ev (fun _ => o) r := ⟨0, fun _ _ => h⟩
mutual
def tsize : S24 → Nat
 | ⟨_, _, _, kids⟩ => 1 + lsize kids
def lsize : List S24 → Nat
 | [] => 0
 | t :: r => tsize t + lsize r
end
mutual
def byteT : S24 → Prop
 | ⟨k, w, wd, kids⟩ => (0 ≤ k ∧ k ≤ 255) ∧ (0 ≤ w ∧ w ≤ 255) ∧ byteL kids
def byteL : List S24 → Prop
 | [] => True
 | t :: r => byteT t ∧ byteL r
end
theorem counts_byte (a : Int) (h0 : 0 ≤ a) : zaW.f a = some (countsB a) := by
 unfold zaW.f zaP.f countsB triviaL
 by_cases h1 : a = 1
 ·subst h1; rfl
 by_cases h2 : a = 2
 ·subst h2; rfl
 by_cases h3 : a = 3
 ·subst h3; rfl
 by_cases h4 : a = 4
 ·subst h4; rfl
 by_cases h5 : a = 5
 ·subst h5; rfl
 by_cases h9 : a = 9
 ·subst h9; rfl
 by_cases h00 : a = 0
 ·subst h00; rfl
 rw [if_neg h1, if_neg h2, if_neg h3, if_neg h4, if_neg h5, if_neg h9, if_pos q9]
 have hc : ([0, 1, 2, 3, 4, 5, 9] : List Int).contains a = false := by simp [h1, h2, h3, h4, h5, h9, h00]
 rw [hc]; by_cases g1 : a ≤ 17
 ·rw [if_pos g1]
  simp [g1]; omega
 ·rw [if_neg g1]
  by_cases g2 : a ≥ 20
  ·rw [if_pos g2]
   simp [g1, g2]
  ·rw [if_neg g2]
   simp [g1]; omega
theorem leaf_same (k w wd : Int) (kids : List S24) (hk : 0 ≤ k) (hw : 0 ≤ w) : zbt.f k w wd kids = some (leafB k w wd kids) := by
 rw [← leaf_some]; unfold zbt.f tree_leaf.f
 rw [counts_byte w hw]; have ht : zaP.f k = zbE.f k := by
  unfold zaP.f zbE.f
  rfl
 rw [ht]
 rfl
theorem leafB_facts {k w wd : Int} {kids : List S24} (h : leafB k w wd kids = true) : kids = [] ∧ 0 ≤ wd ∧ wd ≤ 1099511627776 ∧ (k = 50 → wd = 0) ∧ (k ≠ 50 → 1 ≤ wd ∧ w = 0) ∧ (k = 50 ∨ (1 ≤ k ∧ k ≤ 17) ∨ (20 ≤ k ∧ k ≤ 40)) := by
 have h1 := leaf_some k w wd kids; rw [h] at h1; unfold tree_leaf.f at h1
 split at h1
 ·cases h1
 ·rename_i hl
  have hk : kids = [] := List.eq_nil_of_length_eq_zero q9
  split at h1
  ·rename_i h50
   split at h1
   ·rename_i h0
    exact ⟨hk, q9, q9, fun _ => h0, fun h => absurd h50 h, .inl h50⟩
   ·cases h1
  ·rename_i h50
   have htok : ∀ b, zbE.f k = some b → b = true → (1 ≤ k ∧ k ≤ 17) ∨ (20 ≤ k ∧ k ≤ 40) := by
    intro b hb hbt
    subst hbt; unfold zbE.f at hb
    split at hb
    ·split at hb
     ·omega
     ·split at hb
      ·simp at hb; omega
      ·cases hb
    ·split at hb
     ·simp at hb; omega
     ·cases hb
   cases ht : zbE.f k with
   | none => rw [ht] at h1; cases h1
   | some b =>
    rw [ht, Option.bind_some] at h1
    split at h1
    ·rename_i hbt
     split at h1
     ·split at h1
      ·simp at h1
       exact ⟨hk, q9, q9, fun h => absurd h h50, fun _ => ⟨q9, h1⟩, .inr (htok b ht hbt)⟩
      ·cases h1
     ·cases h1
    ·cases h1
section
variable (k w wd at_ c : Int) (kids : List S24)
theorem j2_true : Ev (fun n => zaj.j2 n at_ (1048576 - c) true k w wd kids) 0 :=
 Ev.step (f := fun _ => some 0) (fun n => by rw [zaj.j2, if_pos rfl]) (Ev.now 0)
theorem j2_false {r : Int} (h : Ev (fun n => zaj.l0 n at_ (1048576 - c) 1 0 0 k w wd kids) r) : Ev (fun n => zaj.j2 n at_ (1048576 - c) false k w wd kids) r :=
 Ev.step (f := fun n => zaj.l0 n at_ (1048576 - c) 1 0 0 k w wd kids) (fun n => by rw [zaj.j2, if_neg qf]) h
theorem j1_true (hk : 0 ≤ k) (hw : 0 ≤ w) : Ev (fun n => zaj.j1 n at_ (1048576 - c) true k w wd kids) (if leafB k w wd kids then 1 else 0) :=
 Ev.step (f := fun _ => some (if leafB k w wd kids then 1 else 0)) (fun n => by
  rw [zaj.j1, if_pos rfl, leaf_same k w wd kids hk hw, Option.bind_some]; cases leafB k w wd kids <;> simp) (Ev.now _)
theorem j1_bad (hw : w ≠ 0) : Ev (fun n => zaj.j1 n at_ (1048576 - c) false k w wd kids) 0 :=
 Ev.step (f := fun n => zaj.j2 n at_ (1048576 - c) true k w wd kids) (fun n => by rw [zaj.j1, if_neg qf, if_neg hw]) (j2_true k w wd at_ c kids)
theorem j1_file (hw : w = 0) (h51 : k = 51) (ha : at_ > 1) : Ev (fun n => zaj.j1 n at_ (1048576 - c) false k w wd kids) 0 :=
 Ev.step (f := fun n => zaj.j2 n at_ (1048576 - c) true k w wd kids) (fun n => by rw [zaj.j1, if_neg qf, if_pos hw, if_pos h51, decide_eq_true ha]) (j2_true k w wd at_ c kids)
theorem j1_inner (hw : w = 0) (h51 : ¬ (k = 51 ∧ at_ > 1)) {r : Int} (h : Ev (fun n => zaj.l0 n at_ (1048576 - c) 1 0 0 k w wd kids) r) : Ev (fun n => zaj.j1 n at_ (1048576 - c) false k w wd kids) r :=
 Ev.step (f := fun n => zaj.j2 n at_ (1048576 - c) false k w wd kids) (fun n => by
  rw [zaj.j1, if_neg qf, if_pos hw]
  by_cases e : k = 51
  ·rw [if_pos e, decide_eq_false (fun h => h51 ⟨e, h⟩)]
  ·rw [if_neg e]) (j2_false k w wd at_ c kids h)
theorem may_none (h : at_ > 65536 ∨ 1048576 - c < 1) : Ev (fun n => zaj.f n k w wd kids at_ (1048576 - c)) 0 := by
 have hj : Ev (fun n => zaj.j0 n at_ (1048576 - c) true k w wd kids) 0 := Ev.step (f := fun _ => some 0) (fun n => by rw [zaj.j0, if_pos rfl]) (Ev.now 0)
 refine Ev.step (f := fun n => zaj.j0 n at_ (1048576 - c) true k w wd kids) (fun n => ?_) hj
 rw [zaj.f]; by_cases ha : at_ > 65536
 ·rw [if_pos ha]
 ·rw [if_neg ha, decide_eq_true q9]
theorem may_some (h1 : ¬ at_ > 65536) (h2 : ¬ 1048576 - c < 1) {r : Int} (h : if k < 51 then Ev (fun n => zaj.j1 n at_ (1048576 - c) true k w wd kids) r else if k > 68 then Ev (fun n => zaj.j1 n at_ (1048576 - c) true k w wd kids) r else Ev (fun n => zaj.j1 n at_ (1048576 - c) false k w wd kids) r) :
  Ev (fun n => zaj.f n k w wd kids at_ (1048576 - c)) r := by
 refine Ev.step (f := fun n => zaj.j0 n at_ (1048576 - c) false k w wd kids) (fun n => by rw [zaj.f, if_neg h1, decide_eq_false h2]) ?_
 by_cases hk : k < 51
 ·rw [if_pos hk] at h
  exact Ev.step (fun n => by rw [zaj.j0, if_neg qf, if_pos hk]) h
 ·rw [if_neg hk] at h
  by_cases hk2 : k > 68
  ·rw [if_pos hk2] at h
   exact Ev.step (fun n => by rw [zaj.j0, if_neg qf, if_neg hk, decide_eq_true hk2]) h
  ·rw [if_neg hk2] at h
   exact Ev.step (fun n => by rw [zaj.j0, if_neg qf, if_neg hk, decide_eq_false hk2]) h
end
theorem rd_mid24 (p : List S24) (t : S24) (r : List S24) : za6 (p ++ t :: r) (p.length : Int) = t := by
 simp [za6, List.getD_eq_getElem?_getD]
def kidsR (c0 wd : Int) : Int × Option Int → Int
 | (_, none) => 0
 | (c', some s) => if s = wd then (if s > 1099511627776 then 0 else c' - c0) else 0
mutual
theorem may_ref : ∀ (t : S24) (at_ c : Int), byteT t → 1 ≤ at_ → at_ ≤ 65537 → 0 ≤ c → c ≤ 1048576 →
  Ev (fun n => zaj.f n t.f0 t.f1 t.f2 t.f3 at_ (1048576 - c)) (if (mayN t at_ c).2 then (mayN t at_ c).1 - c else 0) ∧
  ((mayN t at_ c).2 = true → (mayN t at_ c).1 ≤ 1048576 ∧ (mayN t at_ c).1 = c + tsize t)
 | ⟨k, w, wd, kids⟩, at_, c, hb, ha, ha2, hc, hc2 => by
  obtain ⟨⟨hk0, _⟩, ⟨hw0, _⟩, hkids⟩ := (by simpa only [byteT] using hb : (0 ≤ k ∧ k ≤ 255) ∧ (0 ≤ w ∧ w ≤ 255) ∧ byteL kids)
  have hcw : wrap64 (c + 1) = c + 1 := wrap_id q9 q9
  simp only [mayN, hcw]; by_cases t1 : c + 1 > 1048576
  ·rw [if_pos t1]
   exact ⟨may_none k w wd at_ c kids (.inr q9), fun h => by cases h⟩
  rw [if_neg t1]; by_cases t2 : at_ > 65536
  ·rw [if_pos t2]
   exact ⟨may_none k w wd at_ c kids (.inl t2), fun h => by cases h⟩
  rw [if_neg t2]; by_cases t3 : k ≤ 50
  ·rw [if_pos t3]
   refine ⟨may_some k w wd at_ c kids t2 q9 ?_, fun h => ?_⟩
   ·rw [if_pos q9]
    have := j1_true k w wd at_ c kids hk0 hw0; simp only; rw [show c + 1 - c = 1 by omega]
    exact this
   ·obtain ⟨rfl, _⟩ := leafB_facts h
    simp only [tsize, lsize]; omega
  rw [if_neg t3]; by_cases t4 : k > 68
  ·rw [if_pos t4]
   refine ⟨may_some k w wd at_ c kids t2 q9 ?_, fun h => by cases h⟩
   rw [if_neg q9, if_pos t4]
   have := j1_true k w wd at_ c kids hk0 hw0; cases hL : leafB k w wd kids with
   | false => rw [hL] at this; exact this
   | true => obtain ⟨_, _, _, _, _, h6⟩ := leafB_facts hL; omega
  rw [if_neg t4]; by_cases t5 : w = 0
  case neg =>
   rw [if_pos (show w ≠ 0 from t5)]
   refine ⟨may_some k w wd at_ c kids t2 q9 ?_, fun h => by cases h⟩
   rw [if_neg q9, if_neg t4]
   exact j1_bad k w wd at_ c kids t5
  rw [if_neg (show ¬ (w ≠ 0) from fun h => h t5)]
  by_cases t6 : k = 51 ∧ at_ > 1
  ·rw [if_pos t6]
   refine ⟨may_some k w wd at_ c kids t2 q9 ?_, fun h => by cases h⟩
   rw [if_neg q9, if_neg t4]
   exact j1_file k w wd at_ c kids t5 t6.1 t6.2
  rw [if_neg t6]; obtain ⟨h1, h2⟩ := mayL_ref kids [] at_ (c + 1) c 0 k w wd hkids ha q9 hc q9 q9 (by simp; omega)
  rw [show c + 1 - c = 1 by omega] at h1
  refine ⟨may_some k w wd at_ c kids t2 q9 ?_, ?_⟩
  ·rw [if_neg q9, if_neg t4]
   have h3 := j1_inner k w wd at_ c kids t5 t6 h1
   revert h3 h2
   cases hm : mayL kids at_ (c + 1) 0 with
   | mk c' o =>
    cases o with
    | none => intro _ h3; exact h3
    | some s =>
     intro _ h3
     simp only [kidsR] at h3 ⊢; by_cases e : s = wd
     ·rw [if_pos e] at h3
      by_cases g : s > 1099511627776
      ·rw [if_pos g] at h3
       rw [if_neg (by simp [e]; omega)]
       exact h3
      ·rw [if_neg g] at h3
       rw [if_pos (by simp [e]; omega)]
       exact h3
     ·rw [if_neg e] at h3
      rw [if_neg (by simp [e])]
      exact h3
  ·revert h2
   cases hm : mayL kids at_ (c + 1) 0 with
   | mk c' o =>
    cases o with
    | none => intro _ h; cases h
    | some s =>
     intro h2 _
     obtain ⟨g1, g2⟩ := h2 c' s rfl; simp only [tsize]; omega
theorem mayL_ref : ∀ (l p : List S24) (at_ c c0 sum k w wd : Int), byteL l → 1 ≤ at_ → at_ ≤ 65536 → 0 ≤ c0 → c0 < c → c ≤ 1048576 → (p.length : Int) ≤ c →
  Ev (fun n => zaj.l0 n at_ (1048576 - c0) (c - c0) sum (p.length : Int) k w wd (p ++ l)) (kidsR c0 wd (mayL l at_ c sum)) ∧
  ∀ c' s, mayL l at_ c sum = (c', some s) → c' ≤ 1048576 ∧ c' = c + lsize l
 | [], p, at_, c, c0, sum, k, w, wd, _, _, _, _, _, hc, _ => by
  refine ⟨Ev.step (f := fun _ => some (kidsR c0 wd (mayL [] at_ c sum))) (fun n => ?_) (Ev.now _), fun c' s h => ?_⟩
  ·rw [zaj.l0, if_neg qf]
   simp only [mayL, kidsR]
   split
   ·split <;> rfl
   ·rfl
  ·simp only [mayL, Prod.mk.injEq] at h
   simp only [lsize]; omega
 | t :: r, p, at_, c, c0, sum, k, w, wd, hb, ha, ha2, hc0, hcc, hc, hp => by
  obtain ⟨hbt, hbr⟩ := (by simpa only [byteL] using hb : byteT t ∧ byteL r)
  have haw : wrap64 (at_ + 1) = at_ + 1 := wrap_id q9 q9
  obtain ⟨h1, h2⟩ := may_ref t (at_ + 1) c hbt q9 q9 q9 hc
  have step : ∀ n, zaj.l0 (n + 1) at_ (1048576 - c0) (c - c0) sum (p.length : Int) k w wd (p ++ t :: r) = (zaj.f n t.f0 t.f1 t.f2 t.f3 (at_ + 1) (1048576 - c)).bind fun t160 => if t160 = 0 then some 0 else zaj.l0 n at_ (1048576 - c0) (wrap64 (c - c0 + t160)) (wrap64 (sum + t.f2)) ((p.length : Int) + 1) k w wd (p ++ t :: r) := by
   intro n
   rw [zaj.l0, if_pos (by simp; omega), if_pos q9, rd_mid24, haw, wrap_id (x := 1048576 - c0 - (c - c0)) q9 q9, show 1048576 - c0 - (c - c0) = 1048576 - c by omega, wrap_id (x := (p.length : Int) + 1) q9 q9]
  simp only [mayL, haw]; cases hm : mayN t (at_ + 1) c with
  | mk c' b =>
   rw [hm] at h1 h2; cases b with
   | false =>
    refine ⟨Ev.step step (Ev.bind (f := fun n t160 => if t160 = 0 then some 0 else _) h1 (Ev.const (by simp [kidsR]))), fun c' s h => by simp at h⟩
   | true =>
    obtain ⟨g1, g2⟩ := h2 rfl; simp only at g1 g2; have hts : 1 ≤ tsize t := by cases t; simp only [tsize]; omega
    obtain ⟨k1, k2⟩ := mayL_ref r (p ++ [t]) at_ c' c0 (wrap64 (sum + t.f2)) k w wd hbr ha ha2 hc0 q9 g1 (by simp; omega)
    have h1' : Ev (fun n => zaj.f n t.f0 t.f1 t.f2 t.f3 (at_ + 1) (1048576 - c)) (c' - c) := h1
    refine ⟨Ev.step step (Ev.bind (f := fun n t160 => if t160 = 0 then some 0 else _) h1' ?_), fun c2 s h => ?_⟩
    ·have hne : ¬ (c' - c = 0) := by omega
     simp only [if_neg hne]; rw [wrap_id (x := c - c0 + (c' - c)) q9 q9, show c - c0 + (c' - c) = c' - c0 by omega]
     rw [List.length_append, List.length_singleton, List.append_assoc, List.singleton_append] at k1; exact k1
    ·obtain ⟨q1, q2⟩ := k2 c2 s h
     simp only [lsize]; omega
end
def nx : List S40 → Nat
 | [] => 0
 | t :: r => if zaW.f t.f0 = some true then 0 else nx r + 1
theorem nx_le : ∀ l : List S40, nx l ≤ l.length
 | [] => Nat.le_refl _
 | t :: r => by
  simp only [nx, List.length_cons]; have := nx_le r
  split <;> omega
theorem nx_drop : ∀ l : List S40, nx (l.drop (nx l)) = 0
 | [] => rfl
 | t :: r => by
  by_cases h : zaW.f t.f0 = some true
  ·have e : nx (t :: r) = 0 := by rw [nx, if_pos h]
   rw [e, List.drop_zero, e]
  ·have e : nx (t :: r) = nx r + 1 := by rw [nx, if_neg h]
   rw [e, List.drop_succ_cons, nx_drop r]
theorem next_ev (l : List S40) (hl : l.length ≤ 3000) : Ev (fun k => zaR.f k l 0) (nx l : Int) := by
 have hgo : ∀ (r p : List S40), p ++ r = l → Ev (fun k => zaR.l0 k l 0 (p.length : Int)) ((p.length + nx r : Nat) : Int) := by
  intro r
  induction r with
  | nil =>
   intro p hp
   rw [List.append_nil] at hp; subst hp; exact Ev.step (f := fun _ => some (p.length : Int)) (fun k => by rw [zaR.l0, if_neg q9]) (by simpa [nx] using Ev.now (p.length : Int))
  | cons t r ih =>
   intro p hp
   have hlen : p.length + (r.length + 1) = l.length := by rw [← hp]; simp
   have hrd : zbI l (p.length : Int) = t := by rw [← hp]; simp [zbI]
   have h2 := ih (p ++ [t]) (by rw [← hp]; simp)
   rw [List.length_append, List.length_singleton, show ((p.length + 1 : Nat) : Int) = (p.length : Int) + 1 by omega] at h2
   obtain ⟨b, hb⟩ := counts12_tot t.f0; cases b with
   | true =>
    have e : nx (t :: r) = 0 := by rw [nx, if_pos hb]
    rw [e, Nat.add_zero]; exact Ev.step (f := fun _ => some (p.length : Int)) (fun k => by rw [zaR.l0, if_pos q9, if_pos q9, if_pos q9, hrd, hb, Option.bind_some, if_pos rfl]) (Ev.now _)
   | false =>
    have e : nx (t :: r) = nx r + 1 := by rw [nx, if_neg (by rw [hb]; simp)]
    rw [e, show p.length + (nx r + 1) = p.length + 1 + nx r by omega]
    refine Ev.step (fun k => ?_) h2
    rw [zaR.l0, if_pos q9, if_pos q9, if_pos q9, hrd, hb, Option.bind_some, if_neg qf, zbb (x := (p.length : Int) + 1) q9 q9]
 have := hgo l [] rfl
 simpa [zaR.f] using this
def hd (l : List S40) (a : Nat) : Nat := a + nx (l.drop a)
theorem hd_ge (l : List S40) (a : Nat) : a ≤ hd l a := Nat.le_add_right _ _
theorem hd_le {l : List S40} {a : Nat} (h : a ≤ l.length) : hd l a ≤ l.length := by
 have := nx_le (l.drop a); rw [List.length_drop] at this; unfold hd
 omega
theorem hd_hd (l : List S40) (a : Nat) : hd l (hd l a) = hd l a := by
 have := nx_drop (l.drop a); rw [List.drop_drop] at this; show hd l a + nx (l.drop (hd l a)) = hd l a
 rw [show hd l a = a + nx (l.drop a) from rfl, this, Nat.add_zero]
def cu (l : List S40) (a : Nat) : Int := if hd l a < l.length then (zbI l (hd l a : Int)).f0 else 0
theorem cu_hd (l : List S40) (a : Nat) : cu l (hd l a) = cu l a := by unfold cu; rw [hd_hd]
theorem cu_lt {l : List S40} {a : Nat} (h : cu l a ≠ 0) : hd l a < l.length := by
 unfold cu at h
 split at h
 ·assumption
 ·exact absurd rfl h
end Go.Proofs.Ytobgkpnigjfhmaa.H
