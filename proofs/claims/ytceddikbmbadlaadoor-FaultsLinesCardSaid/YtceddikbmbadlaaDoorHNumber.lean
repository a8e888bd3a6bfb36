/- glossatorref04.Number. -/
import Derived.Test.YtceddikbmbadlaaDoorHx0
import Derived.Outline
import Derived.Deep.LoopGhost
import Derived.Lib.ItoaNum
import Derived.Lib.ItoaLen
import Derived.Laws.IdiomStrings
set_option linter.unusedVariables false
set_option linter.unusedSimpArgs false
namespace Go.Proofs.YtceddikbmbadlaaDoor.H
open Go.RowKit Go.Proofs.YtceddikbmbadlaaDoorW.PrintWords Go.Proofs.YtceddikbmbadlaaDoorW.PrintLast Go.Proofs.YtceddikbmbadlaaDoorW.PrintMore
/-- The numeral's digits, of the absolute value. -/
def digitsOf (k : Int) : List UInt8 := if k = 0 then [] else Lib.decDigits k.natAbs
theorem num_step (m : Int) (hm0 : -9223372036854775808 ≤ m) (hm1 : m ≤ 9223372036854775807) : ∃ D, m.tmod 10 = D ∧ (D < 0 → wrap64 (-D) = -D ∧ wrap64 (48 + -D) % 256 = (((UInt8.ofNat (48 + m.natAbs % 10)).toNat : Nat) : Int)) ∧ (0 ≤ D → wrap64 (48 + D) % 256 = (((UInt8.ofNat (48 + m.natAbs % 10)).toNat : Nat) : Int)) ∧
    wrap64 (m.tdiv 10) = m.tdiv 10 := by
  refine ⟨_, rfl, ?_⟩
  have h10 : m.natAbs % 10 < 10 := Nat.mod_lt _ (by omega)
  have e : (UInt8.ofNat (48 + m.natAbs % 10)).toNat = 48 + m.natAbs % 10 := by
    rw [UInt8.toNat_ofNat']; omega
  rw [e]
  rcases Int.natAbs_eq m with h | h
  · have ht : m.tmod 10 = ((m.natAbs % 10 : Nat) : Int) := by
      conv => lhs; rw [h]
      rfl
    have hd : m.tdiv 10 = ((m.natAbs / 10 : Nat) : Int) := by
      conv => lhs; rw [h]
      rfl
    rw [ht, hd]
    unfold wrap64
    refine ⟨fun _ => by omega, fun _ => by omega, by omega⟩
  · have ht : m.tmod 10 = -((m.natAbs % 10 : Nat) : Int) := by
      conv => lhs; rw [h]
      rw [Int.neg_tmod]
      rfl
    have hd : m.tdiv 10 = -((m.natAbs / 10 : Nat) : Int) := by
      conv => lhs; rw [h]
      rw [Int.neg_tdiv]
      rfl
    rw [ht, hd]
    unfold wrap64
    refine ⟨fun _ => by omega, fun _ => by omega, by omega⟩
theorem natAbs_tdiv (m : Int) : (m.tdiv 10).natAbs = m.natAbs / 10 := by
  rw [Int.natAbs_tdiv]
  rfl
/-- The digits: one more. -/
theorem digits_step (m : Int) (h : m ≠ 0) : digitsOf m = digitsOf (m.tdiv 10) ++ [UInt8.ofNat (48 + m.natAbs % 10)] := by
  have hn : m.natAbs ≠ 0 := by omega
  have e := natAbs_tdiv m
  rw [digitsOf, if_neg h, Lib.decDigits]
  by_cases hs : m.natAbs < 10
  · rw [dif_pos hs, digitsOf, if_pos (by omega), List.nil_append, Nat.mod_eq_of_lt hs]
  · rw [dif_neg hs, digitsOf, if_neg (by omega), e]
set_option maxHeartbeats 8000000 in
set_option maxRecDepth 100000 in
theorem number_calls (k : Int) (h0 : -9223372036854775808 ≤ k) (h1 : k ≤ 9223372036854775807) (hk : (k == 0) = false) (w : World) : Calls Tryd.prog 8 #[.int .i64 k] w fun e w' => e = .returned (.agg #[.int .u8 3, .string ⟨(Lib.itoa k).toArray⟩, .slice none 0 0, .slice none 0 0]) ∧ Below w.heap.size w w' := by
  have hk0 := Aside0.mk (show k ≠ 0 from fun h => by rw [h] at hk; exact absurd hk (by decide))
  go_enter Tryd.func8, Tryd.ntmps8
  go_wp2_with fail
  go_loopg [3, 4] k.natAbs (fun kq v3 v4 w' => ∃ m s, v4 = .int .i64 m ∧ v3 = .string s ∧ -9223372036854775808 ≤ m ∧ m ≤ 9223372036854775807 ∧ Aside0 (w'.heap[w.heap.size]? = some (.cells #[.int .u8 0, .string ⟨#[]⟩, .slice none 0 0, .slice none 0 0] 33 (0, 0))) ∧ Aside0 (Below w.heap.size w w') ∧ Aside0 (kq = m.natAbs) ∧ Aside0 (Lib.decDigits k.natAbs = digitsOf m ++ s.data.toList))
  case atStart => exact ⟨k, _, rfl, rfl, h0, h1, ⟨by simp only [World.alloc, Array.getElem?_push_size]⟩, ⟨Below.alloc (Below.refl _ _) (Nat.le_refl _) _⟩, ⟨rfl⟩, ⟨by rw [digitsOf, if_neg hk0.out]; simp⟩⟩
  case round =>
    obtain ⟨m, s, rfl, rfl, hm0, hm1, HC, HB, HK, HS⟩ := hrel
    by_cases hc : m = 0
    · have hc1 : (m == 0) = true := by simp [hc]
      have hc2 : (m != 0) = false := by simp [hc]
      have c0 := blk_cell HC.out 0
      have c1 := blk_cell HC.out 1
      have c2 := blk_cell HC.out 2
      have c3 := blk_cell HC.out 3
      have f0 := blk_frozen HC.out 0
      have f1 := blk_frozen HC.out 1
      have f2 := blk_frozen HC.out 2
      have f3 := blk_frozen HC.out 3
      have bl := blk_lt HC.out
      simp at c0 c1 c2 c3
      have HR := Aside0.mk (show ∀ v : ByteArray, Below w.heap.size w ((((wr.setCell ⟨w.heap.size, 0, none⟩ (.int .u8 3)).setCell ⟨w.heap.size, 1, none⟩ (.string v)).setCell ⟨w.heap.size, 2, none⟩ (.slice none 0 0)).setCell ⟨w.heap.size, 3, none⟩ (.slice none 0 0)) from fun v => ((((HB.out.setCell (Nat.le_refl _) _).setCell (Nat.le_refl _) _).setCell (Nat.le_refl _) _).setCell (Nat.le_refl _) _))
      have HD := Aside0.mk (show Lib.decDigits k.natAbs = s.data.toList by rw [HS.out, hc]; rfl)
      have hlen : s.size ≤ 21 := by
        have a1 := congrArg List.length HD.out
        have a2 := Lib.nDigits_le20 k.natAbs (by omega)
        rw [Lib.decDigits_length] at a1
        have : s.data.toList.length = s.size := Array.length_toList
        omega
      have hs1 : ¬ 9223372036854775807 < 1 + s.size := by omega
      by_cases hneg : k < 0
      · have hn1 : decide (k < 0) = true := decide_eq_true hneg
        have HE := Aside0.mk (show Lib.itoa k = ((⟨#[45]⟩ : ByteArray) ++ s).data.toList by
          rw [Lib.itoa, if_pos hneg, HD.out]; simp)
        clear hneg
        go_wp2_with fail
        refine bodyPost_ret (v := .agg #[.int .u8 3, .string ((⟨#[45]⟩ : ByteArray) ++ s), .slice none 0 0, .slice none 0 0]) (by simp [results, show Tryd.f8.results = #[.cell 2 33] from rfl, go_sem, c0, c1, c2, c3]) rfl ⟨by rw [HE.out], HR.out _⟩
      · have hn1 : decide (k < 0) = false := decide_eq_false hneg
        have HE := Aside0.mk (show Lib.itoa k = s.data.toList by
          rw [Lib.itoa, if_neg hneg, ← HD.out]; congr 1; omega)
        clear hneg
        go_wp2_with fail
        refine bodyPost_ret (v := .agg #[.int .u8 3, .string (s), .slice none 0 0, .slice none 0 0]) (by simp [results, show Tryd.f8.results = #[.cell 2 33] from rfl, go_sem, c0, c1, c2, c3]) rfl ⟨by rw [HE.out], HR.out _⟩
    · have hc1 : (m == 0) = false := by simp [hc]
      have hc2 : (m != 0) = true := by simp [hc]
      obtain ⟨D, hD, hneg, hpos, htd⟩ := num_step m hm0 hm1
      have hstep := digits_step m hc
      obtain ⟨c, hcd⟩ : ∃ c, c = UInt8.ofNat (48 + m.natAbs % 10) := ⟨_, rfl⟩
      rw [← hcd] at hneg hpos
      rw [← hcd] at hstep
      clear hcd
      have hlen : s.size ≤ 21 := by
        have a1 := congrArg List.length HS.out
        have a2 := Lib.nDigits_le20 k.natAbs (by omega)
        rw [Lib.decDigits_length, List.length_append] at a1
        have : s.data.toList.length = s.size := Array.length_toList
        omega
      have hs1 : ¬ 9223372036854775807 < 1 + s.size := by omega
      have HST := Aside0.mk hstep
      have HN := Aside0.mk (natAbs_tdiv m)
      have HC2 := Aside0.mk hc
      have hb0 : -9223372036854775808 ≤ m.tdiv 10 ∧ m.tdiv 10 ≤ 9223372036854775807 := by have := HN.out; omega
      have HB0 := Aside0.mk hb0
      clear hstep hc hb0
      have hconv := run_convert_bytes_back (P := Tryd.prog) (wr.alloc (.cells #[.int .u8 ((c.toNat : Nat) : Int)] 5)) 38 9 5 ⟨wr.heap.size, 0, none⟩ 1 [c] Tryd.underlying38 Tryd.underlying5 Tryd.underlying9 (fun j hj => by
        obtain rfl : j = 0 := by simpa using hj
        exact (World.cell?_alloc_new _ _ _ 0).trans rfl)
      rw [List.length_singleton] at hconv
      have Hrel := Aside0.mk (show ∀ W', W' = wr.alloc (.cells #[.int .u8 ((c.toNat : Nat) : Int)] 5) → W'.heap[w.heap.size]? = some (.cells #[.int .u8 0, .string ⟨#[]⟩, .slice none 0 0, .slice none 0 0] 33 (0, 0)) ∧ Below w.heap.size w W' ∧ Lib.decDigits k.natAbs = digitsOf (m.tdiv 10) ++ (⟨#[c]⟩ ++ s : ByteArray).data.toList from fun W' h => by
        subst h
        refine ⟨?_, Below.alloc HB.out HB.out.size _, ?_⟩
        · simp only [World.alloc]
          rw [Array.getElem?_push_lt (blk_lt HC.out), ← Array.getElem?_eq_getElem]
          exact HC.out
        · rw [HS.out, HST.out, List.append_assoc]
          simp)
      by_cases hDn : D < 0
      · have hDn1 : decide (D < 0) = true := decide_eq_true hDn
        obtain ⟨e1, e2⟩ := hneg hDn
        go_wp2_with fail
        go_roundg (m.natAbs / 10)
        case measure => have := HK.out; have := HC2.out; omega
        case rel => exact ⟨m.tdiv 10, _, rfl, rfl, HB0.out.1, HB0.out.2, ⟨(Hrel.out _ rfl).1⟩, ⟨(Hrel.out _ rfl).2.1⟩, ⟨HN.out.symm⟩, ⟨(Hrel.out _ rfl).2.2⟩⟩
      · have hDn1 : decide (D < 0) = false := decide_eq_false hDn
        have e2 := hpos (by omega)
        go_wp2_with fail
        go_roundg (m.natAbs / 10)
        case measure => have := HK.out; have := HC2.out; omega
        case rel => exact ⟨m.tdiv 10, _, rfl, rfl, HB0.out.1, HB0.out.2, ⟨(Hrel.out _ rfl).1⟩, ⟨(Hrel.out _ rfl).2.1⟩, ⟨HN.out.symm⟩, ⟨(Hrel.out _ rfl).2.2⟩⟩
/-- The whole contract: any number's numeral. -/
theorem number0_calls (w : World) : Calls Tryd.prog 8 #[.int .i64 0] w fun e w' => e = .returned (.agg #[.int .u8 3, .string ⟨#[48]⟩, .slice none 0 0, .slice none 0 0]) ∧ Below w.heap.size w w' := by
  go_enter Tryd.func8, Tryd.ntmps8
  go_wp2
  refine bodyPost_ret (v := .agg #[.int .u8 3, .string ⟨#[48]⟩, .slice none 0 0, .slice none 0 0]) (by simp [results, show Tryd.f8.results = #[.cell 2 33] from rfl, go_sem]) rfl ⟨rfl, Below.alloc (Below.refl _ _) (Nat.le_refl _) _⟩
theorem num_calls (k : Int) (h0 : -9223372036854775808 ≤ k) (h1 : k ≤ 9223372036854775807) (w : World) : Calls Tryd.prog 8 #[.int .i64 k] w fun e w' => e = .returned (.agg #[.int .u8 3, .string ⟨(Lib.itoa k).toArray⟩, .slice none 0 0, .slice none 0 0]) ∧ Below w.heap.size w w' := by
  by_cases hk : k = 0
  · subst hk
    have e : (Lib.itoa 0).toArray = #[48] := by
      rw [Lib.itoa, if_neg (by decide), Lib.decDigits]
      rfl
    rw [e]
    exact number0_calls w
  · exact number_calls k h0 h1 (by simp [hk]) w
#print axioms num_calls
end Go.Proofs.YtceddikbmbadlaaDoor.H
