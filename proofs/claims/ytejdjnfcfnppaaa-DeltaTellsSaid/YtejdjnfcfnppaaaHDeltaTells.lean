/- DeltaTells, walked: it answers true, given what the parts answer. -/
import Derived.Test.YtejdjnfcfnppaaaHDeltaLent
import Derived.Test.YtejdjnfcfnppaaaHDeltaEdits
import Derived.Test.YtejdjnfcfnppaaaHxglossatorlaw24total
import Derived.Test.YtejdjnfcfnppaaaHxglossatorref24Edits
import Derived.Test.YtejdjnfcfnppaaaHxglossatorref24SameSplices
import Derived.Deep.LoopGhost
set_option linter.unusedVariables false
set_option linter.unusedSimpArgs false
namespace Go.Proofs.Ytejdjnfcfnppaaa.H
open Go.RowKit Go.Proofs.YtejdjnfcfnppaaaW.PrintWords Go.Proofs.YtejdjnfcfnppaaaW.PrintLast Go.Proofs.YtejdjnfcfnppaaaW.PrintMore

/-- What a list with room behind reads as. -/
theorem C_front {W : World} {A : Option Addr} {l : List Int} (h : Kd.C (Kd.int .i64) W A (l.length + 2) (l ++ [77, 77])) : Kd.C (Kd.int .i64) W A l.length l := by
  have := ReadsOf.take_ (Kd.reads_of_C (enc := Value.int .i64) (d := 0) h) l.length (by omega)
  rw [List.take_left' rfl] at this
  exact Kd.C_of_reads this
theorem C_room {W : World} {base c : Nat} {A : Option Addr} {l : List Int} (h : Kd.R (Kd.int .i64) 3 W base (fun _ => True) (.slice A (l.length + 2) c) (l ++ [77, 77])) : Kd.C (Kd.int .i64) W A (l.length + 2) (l ++ [77, 77]) ∧ l.length + 2 ≤ c := by
  obtain ⟨h1, h2, h3⟩ := Kd.R_reads' h
  rw [show (l ++ [(77 : Int), 77]).length = l.length + 2 by simp] at h3
  exact ⟨h3, h2⟩

/-- A row that may be written up to its capacity. -/
def Rows3 (base : Nat) (W : World) (A : Option Addr) (cap : Nat) : Prop := cap = 0 ∨ ∃ g cur, A = some ⟨g, 0, none⟩ ∧ base ≤ g ∧ W.heap[g]? = some (.cells cur 3 (0, 0)) ∧ cur.size = cap
theorem Rows3.of_R {W : World} {base n c : Nat} {ok : Nat → Prop} {A : Option Addr} {l : List Int} (h : Kd.R (Kd.int .i64) 3 W base ok (.slice A n c) l) : Rows3 base W A c ∧ c ≤ 9223372036854775807 := by
  have ho := Kd.own_of_R (h1 := fun _ => rfl) h
  rcases ho.2 with ⟨hv, _⟩ | ⟨g, cap, cur, hv, hb, hh, _, hm, hs, _⟩
  · injection hv with h1 h2 h3
    exact ⟨.inl h3, by omega⟩
  · injection hv with h1 h2 h3
    subst h3
    simp only [maxLen] at hm
    exact ⟨.inr ⟨g, cur, h1, hb, hh, by omega⟩, by omega⟩
theorem Rows3.below {W W1 : World} {base c : Nat} {A : Option Addr} (h : Rows3 base W A c) (hb : Below W.heap.size W W1) : Rows3 base W1 A c := by
  rcases h with h | ⟨g, cur, h1, h2, h3, h4⟩
  · exact .inl h
  · exact .inr ⟨g, cur, h1, h2, blk_below h3 hb, h4⟩

set_option maxHeartbeats 8000000 in
set_option maxRecDepth 100000 in
theorem tells_calls (k : Nat) (A0 : Option Addr) (c0 : Nat) (l0 : List Int) (A1 : Option Addr) (c1 : Nat) (l1 : List Int) (w : World) (hr0 : Kd.C (Kd.int .i64) w A0 l0.length l0) (hc0 : l0.length ≤ c0) (hr1 : Kd.C (Kd.int .i64) w A1 l1.length l1) (hc1 : l1.length ≤ c1) (r : List S27)
    (ht : glossatorlaw24_total.f k l0 l1 [] = some ((l0.length : Int) + (l1.length : Int)))
    (h1 : l0.length + l1.length ≤ 50000 → glossatorref24_Edits.f k l0 l1 = some r ∧ delta_Edits.f l0 l1 = some r ∧ glossatorref24_SameSplices.f k r r = some true ∧ glossatorref24_Same.f k l0 l0 = some true ∧ glossatorref24_Same.f k l1 l1 = some true ∧ r.length ≤ 1) :
    Calls Try.prog 4 #[.slice A0 l0.length c0, .slice A1 l1.length c1] w fun e w' => e = .returned (.bool true) ∧ Below w.heap.size w w' := by
  have HR0 := Aside0.mk hr0
  have HC0 := Aside0.mk hc0
  have HR1 := Aside0.mk hr1
  have HC1 := Aside0.mk hc1
  have HT := Aside0.mk ht
  clear hr0 hc0 hr1 hc1 ht
  have hb : decide ((l0.length : Int) + (l1.length : Int) > 50000) = decide (l0.length + l1.length > 50000) := by by_cases h : l0.length + l1.length > 50000 <;> simp [h] <;> omega
  by_cases hbig : l0.length + l1.length > 50000
  · have e1 : decide ((50000 : Int) < (l0.length : Int) + (l1.length : Int)) = true := decide_eq_true (by omega)
    clear hb h1 hbig
    go_enter Try.func4, Try.ntmps4
    go_wp2_with fail
    refine (glossatorlaw24_total.calls k _ _ l0 _ _ l1 none 0 [] _ w HR0.out HC0.out HR1.out HC1.out (Kd.C_nil _ _) (Nat.le_refl _) HT.out).mono ?_
    rintro e w' ⟨rfl, ⟨nd, rfl⟩⟩
    go_wp2
    go_ret
    exact ⟨rfl, pw_below_drewN (Below.refl _ _) _⟩
  have e1 : decide ((50000 : Int) < (l0.length : Int) + (l1.length : Int)) = false := decide_eq_false (by omega)
  have H := Aside0.mk (h1 (by omega))
  have HN := Aside0.mk (show l0.length + l1.length ≤ 50000 by omega)
  clear hb h1 hbig
  go_enter Try.func4, Try.ntmps4
  go_wp2_with fail
  refine (glossatorlaw24_total.calls k _ _ l0 _ _ l1 none 0 [] _ w HR0.out HC0.out HR1.out HC1.out (Kd.C_nil _ _) (Nat.le_refl _) HT.out).mono ?_
  rintro e w' ⟨rfl, ⟨nd, rfl⟩⟩
  go_wp2_with fail
  refine (lent_calls _ _ l0 _ (Kd.C_drewN HR0.out _) HC0.out (by have := HN.out; omega)).mono ?_
  rintro e W1 ⟨A2, c2, rfl, ho2, hb2⟩
  have HX := Aside0.mk ho2
  have HB1 := Aside0.mk (below_step (pw_below_drewN (Below.refl _ _) _) hb2 : Below w.heap.size w W1)
  clear ho2 hb2
  go_wp2_with fail
  refine (lent_calls _ _ l1 _ (Kd.C_below HR1.out HB1.out) HC1.out (by have := HN.out; omega)).mono ?_
  rintro e W2 ⟨A3, c3, rfl, ho3, hb3⟩
  have HX2 := Aside0.mk (Kd.C_below (C_room HX.out).1 hb3)
  have HXc := Aside0.mk (C_room HX.out).2
  have HY2 := Aside0.mk (C_room ho3).1
  have HYc := Aside0.mk (C_room ho3).2
  have HB2 := Aside0.mk (below_step HB1.out hb3)
  clear HX HB1 ho3 hb3
  go_wp2_with fail
  refine (glossatorref24_Edits.calls k _ _ l0 _ _ l1 r _ (Kd.C_below HR0.out HB2.out) HC0.out (Kd.C_below HR1.out HB2.out) HC1.out H.out.1).mono ?_
  rintro e W3 ⟨v7, rfl, ho4, hb4⟩
  obtain ⟨A4, c4, rfl, hc4, hr4⟩ := Kd.N_reads ho4
  have HW := Aside0.mk hr4
  have HWc := Aside0.mk hc4
  have HX3 := Aside0.mk (Kd.C_below HX2.out hb4)
  have HY3 := Aside0.mk (Kd.C_below HY2.out hb4)
  have HB3 := Aside0.mk (below_step HB2.out hb4)
  clear HX2 HY2 HB2 ho4 hb4 hc4 hr4
  go_wp2
  go_loopg [8] 2 (fun kq v8 w' => ∃ i : Nat, v8 = .int .i64 i ∧ Aside0 (kq = 2 - i) ∧ i ≤ 2 ∧ Aside0 (Kd.C (Kd.int .i64) w' A2 (l0.length + 2) (l0 ++ [77, 77])) ∧ Aside0 (Kd.C (Kd.int .i64) w' A3 (l1.length + 2) (l1 ++ [77, 77])) ∧ Aside0 (Kd.C k27 w' A4 r.length r) ∧ Aside0 (Below w.heap.size w w'))
  case atStart => exact ⟨0, rfl, ⟨rfl⟩, by omega, HX3, HY3, HW, HB3⟩
  case round =>
    clear HX3 HY3 HW HB3
    obtain ⟨i, rfl, HK, hi, HX, HY, HW, HB⟩ := hrel
    obtain ⟨wo, hwo⟩ : ∃ wo, wo = wr := ⟨_, rfl⟩
    subst hwo
    by_cases hlt : i < 2
    · have d1 : decide ((i : Int) < 2) = true := decide_eq_true (by omega)
      go_wp2_with fail
      refine (delta_Edits.callsR _ _ l0 _ _ l1 r _ (C_front HX.out) (by have := HXc.out; omega) (C_front HY.out) (by have := HYc.out; omega) H.out.2.1).mono ?_
      rintro e W5 ⟨v9, rfl, ho5, hb5⟩
      have HO5 := Aside0.mk ho5
      have HS5 := Aside0.mk hb5
      obtain ⟨A5, c5, rfl⟩ := Kd.R_slice ho5
      clear ho5 hb5
      go_wp2_with fail
      refine (glossatorref24_SameSplices.calls k _ _ r _ _ r true _ (Kd.R_reads' HO5.out).2.2 (Kd.R_reads' HO5.out).2.1 (Kd.C_below HW.out HS5.out) HWc.out H.out.2.2.1).mono ?_
      rintro e W6 ⟨rfl, hb6⟩
      have HO6 := Aside0.mk (Kd.R_below HO5.out hb6)
      have HS6 := Aside0.mk (below_step HS5.out hb6)
      clear HO5 HS5 hb6
      go_wp2_with fail
      refine (kept_calls k _ _ _ _ l0 _ (Kd.C_below HX.out HS6.out) HXc.out (Kd.C_below HR0.out (below_step HB.out HS6.out)) HC0.out (by have := HN.out; omega) H.out.2.2.2.1).mono ?_
      rintro e w' ⟨rfl, ⟨nd2, rfl⟩⟩
      go_wp2_with fail
      refine (kept_calls k _ _ _ _ l1 _ (Kd.C_drewN (Kd.C_below HY.out HS6.out) _) HYc.out (Kd.C_drewN (Kd.C_below HR1.out (below_step HB.out HS6.out)) _) HC1.out (by have := HN.out; omega) H.out.2.2.2.2.1).mono ?_
      rintro e w' ⟨rfl, ⟨nd3, rfl⟩⟩
      go_wp2
      have HO7 := Aside0.mk (Kd.R_drewN HO6.out (nd2 + nd3))
      have HS7 := Aside0.mk (show Below wo.heap.size wo (W6.drewN (nd2 + nd3)) from pw_below_drewN HS6.out _)
      clear HO6 HS6
      go_loopg [10] r.length (fun kq v10 w' => ∃ j : Nat, v10 = .int .i64 j ∧ Aside0 (kq = r.length - j) ∧ j ≤ r.length ∧ Aside0 (j = 0 → Kd.R k27 27 w' wo.heap.size (fun _ => True) (.slice A5 r.length c5) r) ∧ Aside0 (Below wo.heap.size wo w'))
      case atStart => exact ⟨0, rfl, ⟨rfl⟩, Nat.zero_le _, ⟨fun _ => HO7.out⟩, HS7⟩
      case round =>
        clear HO7 HS7
        obtain ⟨j, rfl, HJ, hj, HO, HS⟩ := hrel
        by_cases hjl : j < r.length
        · have d2 : decide ((j : Int) < (r.length : Int)) = true := decide_eq_true (by omega)
          obtain rfl : j = 0 := by have := H.out.2.2.2.2.2; omega
          obtain ⟨ad5, rfl⟩ : ∃ ad, A5 = some ad := by
            obtain ⟨ad, e, _⟩ := (Kd.R_reads' (HO.out rfl)).2.2.2.2 (by omega)
            exact ⟨ad, e⟩
          obtain ⟨cs, hcl, hM, hcc⟩ := Kd.R_getA (HO.out rfl) z27 0 (Int.le_refl _) (by omega)
          obtain ⟨v2, rfl, hv2⟩ := k27_openM hM
          obtain ⟨A6, c6, rfl⟩ := Kd.R_slice hv2
          have q0 := hcc 2 _ rfl
          rw [show (0 : Int).toNat * k27.sz + 2 = 2 from rfl] at q0
          have q1 : wr.cell? ⟨ad5.block, ad5.off + 2, none⟩ = some (.slice A6 (rd_T27 r 0).f2.length c6) := q0
          obtain ⟨hrow, hcap⟩ := Rows3.of_R hv2
          have HRo := Aside0.mk hrow
          obtain ⟨i3, hi3, _, hs3, _⟩ := info_parts info3
          have hcut := cut_over (P := Try.prog) 22 3 .i64 Try.underlying22 hi3 hs3 A6 (rd_T27 r 0).f2.length c6 (c6 : Int) (by omega) (by omega)
          rw [Int.toNat_natCast] at hcut
          have hu := Try.underlying27
          clear hrow hcc hM hv2 q0
          go_wp2
          go_quiet (fail)
          go_wp2
          go_loopg [12] c6 (fun kq v12 w' => ∃ m : Nat, v12 = .int .i64 m ∧ Aside0 (kq = c6 - m) ∧ m ≤ c6 ∧ Aside0 (Rows3 wo.heap.size w' A6 c6) ∧ Aside0 (Below wo.heap.size wo w'))
          case atStart => exact ⟨0, rfl, ⟨rfl⟩, Nat.zero_le _, ⟨HRo.out.below (pw_below_drewN (Below.refl _ _) _)⟩, ⟨pw_below_drewN HS.out _⟩⟩
          case round =>
            clear HRo HO HS
            obtain ⟨m, rfl, HM, hm, HRo, HS⟩ := hrel
            by_cases hml : m < c6
            · have d3 : decide ((m : Int) < (c6 : Int)) = true := decide_eq_true (by omega)
              obtain ⟨g, cur, rfl, hg, hblk, hsz⟩ : ∃ g cur, A6 = some ⟨g, 0, none⟩ ∧ wo.heap.size ≤ g ∧ wr.heap[g]? = some (.cells cur 3 (0, 0)) ∧ cur.size = c6 := by
                rcases HRo.out with h | h
                · omega
                · exact h
              have hk : wr.cell? ⟨g, m, none⟩ = some (cur[m]'(by omega)) := by rw [blk_cell hblk m, Array.getElem?_eq_getElem]
              have hf := blk_frozen hblk m
              have HBK := Aside0.mk hblk
              clear hblk HRo
              go_wp2
              go_roundg (c6 - (m + 1))
              case measure => have := HM.out; omega
              case rel => exact ⟨m + 1, by go_num, ⟨rfl⟩, by omega, ⟨.inr ⟨g, _, rfl, hg, blk_set HBK.out m _, by rw [Array.size_setIfInBounds]; exact hsz⟩⟩, ⟨HS.out.setCell hg _⟩⟩
            · have d3 : decide ((m : Int) < (c6 : Int)) = false := decide_eq_false (by omega)
              go_wp2
              go_roundg (r.length - 1)
              case measure => have := HJ.out; omega
              case rel => exact ⟨1, by go_num, ⟨rfl⟩, by omega, ⟨fun h => by cases h⟩, HS⟩
        · have d2 : decide ((j : Int) < (r.length : Int)) = false := decide_eq_false (by omega)
          go_wp2_with fail
          refine (kept_calls k _ _ _ _ l0 _ (Kd.C_below HX.out HS.out) HXc.out (Kd.C_below HR0.out (below_step HB.out HS.out)) HC0.out (by have := HN.out; omega) H.out.2.2.2.1).mono ?_
          rintro e w' ⟨rfl, ⟨nd4, rfl⟩⟩
          go_wp2_with fail
          refine (kept_calls k _ _ _ _ l1 _ (Kd.C_drewN (Kd.C_below HY.out HS.out) _) HYc.out (Kd.C_drewN (Kd.C_below HR1.out (below_step HB.out HS.out)) _) HC1.out (by have := HN.out; omega) H.out.2.2.2.2.1).mono ?_
          rintro e w' ⟨rfl, ⟨nd5, rfl⟩⟩
          go_wp2
          go_roundg (2 - (i + 1))
          case measure => have := HK.out; omega
          case rel => exact ⟨i + 1, by go_num, ⟨rfl⟩, by omega, ⟨Kd.C_drewN (Kd.C_below HX.out HS.out) _⟩, ⟨Kd.C_drewN (Kd.C_below HY.out HS.out) _⟩, ⟨Kd.C_drewN (Kd.C_below HW.out HS.out) _⟩, ⟨pw_below_drewN (below_step HB.out HS.out) _⟩⟩
    · obtain rfl : i = 2 := by omega
      have d1 : decide (((2 : Nat) : Int) < 2) = false := rfl
      go_wp2
      go_ret
      exact ⟨rfl, HB.out⟩
end Go.Proofs.Ytejdjnfcfnppaaa.H
