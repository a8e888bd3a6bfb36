/- The contracts of slices.IndexFunc over spans, of the closure of lex.At, and of lex.At: which token has a place. -/
import Derived.Test.YtejdjnfcfnppaaaHx0
import Derived.Test.YtejdjnfcfnppaaaHxlexSpans
import Derived.Outline
set_option linter.unusedVariables false
set_option linter.unusedSimpArgs false
namespace Go.Proofs.Ytejdjnfcfnppaaa.H
open Go.RowKit Go.Proofs.YtejdjnfcfnppaaaW.PrintWords Go.Proofs.YtejdjnfcfnppaaaW.PrintLast Go.Proofs.YtejdjnfcfnppaaaW.PrintMore

/-- Where the first one is that answers yes; -1: none. -/
def idxFrom (p : S42 → Bool) : List S42 → Int → Int
  | [], _ => -1
  | x :: r, i => if p x then i else idxFrom p r (i + 1)
/-- Where a span ends that begins at a place. -/
def spanTo (x : Int) (t : S50) : Int := mn (wrap64 (x + (mn (mx t.f1 0) 1099511627776))) 1099511627776
def spansFrom (x : Int) : List S50 → List S42
  | [] => []
  | t :: r => ⟨x, spanTo x t⟩ :: spansFrom (spanTo x t) r
def atB (place : Int) (s : S42) : Bool := decide (s.f0 ≤ place) && decide (place < s.f1)
def lex_At.f (l0 : List S50) (a1 : Int) : Option Int := if l0.length ≤ 8796093022208 then some (idxFrom (atB a1) (spansFrom 0 l0) 0) else none
theorem spans_length (x : Int) (l : List S50) : (spansFrom x l).length = l.length := by
  induction l generalizing x with
  | nil => rfl
  | cons t r ih => simp [spansFrom, ih]
theorem spans_l0 (l : List S50) (hl : l.length ≤ 8796093022208) (d : Nat) : ∀ (k i : Nat) (out : List S42) (x : Int), i ≤ l.length → l.length - i = d → d < k → out.length = i →
    lex_Spans.l0 k out x l (l.length : Int) (i : Int) = some (out ++ spansFrom x (l.drop i)) := by
  induction d with
  | zero =>
    intro k i out x hi hd hk ho
    obtain ⟨k, rfl⟩ : ∃ m, k = m + 1 := ⟨k - 1, by omega⟩
    simp only [lex_Spans.l0]
    rw [if_neg (by omega), List.drop_eq_nil_of_le (by omega)]
    simp [spansFrom]
  | succ d ih =>
    intro k i out x hi hd hk ho
    obtain ⟨k, rfl⟩ : ∃ m, k = m + 1 := ⟨k - 1, by omega⟩
    have hlt : i < l.length := by omega
    have hr : rd_T50 l (i : Int) = l[i] := by simp [rd_T50, List.getD_eq_getElem?_getD, List.getElem?_eq_getElem hlt]
    simp only [lex_Spans.l0]
    rw [if_pos (by omega), if_pos (by omega), if_pos (by omega), if_pos (by omega), hr]
    have hw : wrap64 ((i : Int) + 1) = ((i + 1 : Nat) : Int) := by unfold wrap64; omega
    rw [hw, ih k (i + 1) _ _ (by omega) (by omega) (by omega) (by simp [ho]), List.drop_eq_getElem_cons hlt]
    simp [spansFrom, spanTo]
theorem lex_Spans_f (l : List S50) (hl : l.length ≤ 8796093022208) (k : Nat) (hk : l.length < k) : lex_Spans.f k l = some (spansFrom 0 l) := by
  unfold lex_Spans.f
  have := spans_l0 l hl l.length k 0 [] 0 (by omega) (by omega) hk rfl
  simpa using this

set_option maxHeartbeats 1000000 in
theorem lexAt1_calls (s : S42) (place : Int) (W : World) (g : Nat) (h1 : W.cell? ⟨g, 0, none⟩ = some (.int .i64 place)) :
    Calls Try.prog 32 #[.agg #[.int .i64 s.f0, .int .i64 s.f1], .pointer (some ⟨g, 0, none⟩)] W fun e w' => e = .returned (.bool (atB place s)) ∧ Below W.heap.size W w' := by
  have hu42 := Try.underlying42
  have hg : g < W.heap.size := World.block_lt_of_cell? W _ h1
  have HB := Aside0.mk (below_alloc (Below.refl W.heap.size W) (.cells #[.int .i64 s.f0, .int .i64 s.f1] 42))
  by_cases hp : s.f0 ≤ place
  · have b1 : decide (s.f0 ≤ place) = true := decide_eq_true hp
    clear hp
    go_enter Try.func32, Try.ntmps32
    go_wp2
    go_ret
    exact ⟨by simp [atB, b1], HB.out⟩
  · have b1 : decide (s.f0 ≤ place) = false := decide_eq_false hp
    clear hp
    go_enter Try.func32, Try.ntmps32
    go_wp2
    go_ret
    exact ⟨by simp [atB, b1], HB.out⟩

set_option maxHeartbeats 1000000 in
theorem indexFunc_calls (p : S42 → Bool) (A0 : Option Addr) (c0 : Nat) (xs : List S42) (x : Value) (w : World) (hr : Kd.C k42 w A0 xs.length xs)
    (hF : Aside0 (∀ (s : S42) (W : World), Below w.heap.size w W → Calls Try.prog 32 #[.agg #[.int .i64 s.f0, .int .i64 s.f1], x] W fun e w' => e = .returned (.bool (p s)) ∧ Below W.heap.size W w')) :
    Calls Try.prog 31 #[.slice A0 xs.length c0, .func (.func 32) #[] #[x]] w fun e w' => e = .returned (.int .i64 (idxFrom p xs 0)) ∧ Below w.heap.size w w' := by
  have hm : xs.length ≤ 9223372036854775807 := hr.2.1
  have HR := Aside0.mk hr
  clear hr
  have hu42 := Try.underlying42
  obtain ⟨r, hr⟩ : ∃ r, r = idxFrom p xs 0 := ⟨_, rfl⟩
  rw [← hr]
  have HRR := Aside0.mk hr
  clear hr
  go_enter Try.func31, Try.ntmps31
  go_wp2
  go_loopg [8] xs.length (fun kq v8 w' => ∃ i : Nat, v8 = .int .i64 i ∧ i ≤ xs.length ∧ Aside0 (kq = xs.length - i) ∧ Aside0 (r = idxFrom p (xs.drop i) i) ∧ Aside0 (Below w.heap.size w w'))
  case atStart => exact ⟨0, rfl, Nat.zero_le _, ⟨rfl⟩, ⟨HRR.out⟩, ⟨Below.refl _ _⟩⟩
  case round =>
    clear HRR
    obtain ⟨i, rfl, hi, HK, HP, HB⟩ := hrel
    by_cases hlt : i < xs.length
    · obtain ⟨ad, e, g0, g1⟩ := at_T42 HR.out (i : Int) (by omega) (by omega)
      subst e
      rw [Int.toNat_natCast] at g0 g1
      replace g0 := (HB.out.cell (World.block_lt_of_cell? w _ g0)).trans g0
      replace g1 := (HB.out.cell (World.block_lt_of_cell? w _ g1)).trans g1
      obtain ⟨s, hs⟩ : ∃ s, s = rd_T42 xs (i : Int) := ⟨_, rfl⟩
      rw [← hs] at g0 g1
      obtain ⟨q, hq⟩ : ∃ q, q = p s := ⟨_, rfl⟩
      have hc0 := hF.out s wr HB.out
      rw [← hq] at hc0
      have hc := Aside0.mk hc0
      have HP2 := Aside0.mk (show r = if q then (i : Int) else idxFrom p (xs.drop (i + 1)) ((i + 1 : Nat) : Int) by
        rw [HP.out, List.drop_eq_getElem_cons hlt, hq, hs]
        simp [idxFrom, rd_T42, List.getD_eq_getElem?_getD, List.getElem?_eq_getElem hlt])
      clear hc0 hq hs HP
      cases q with
      | true =>
        go_wp2_with (go_at_call 32; refine hc.out.mono ?_; rintro e w1 ⟨rfl, hb⟩)
        go_ret
        exact ⟨by rw [HP2.out]; rfl, below_step HB.out hb⟩
      | false =>
        go_wp2_with (go_at_call 32; refine hc.out.mono ?_; rintro e w1 ⟨rfl, hb⟩; have HB1 := Aside0.mk (below_step HB.out hb); clear hb)
        go_roundg (xs.length - (i + 1))
        case measure => have := HK.out; omega
        case rel => exact ⟨i + 1, by go_num, by omega, ⟨rfl⟩, ⟨HP2.out⟩, HB1⟩
    · have hi2 : xs.length ≤ i := Nat.not_lt.1 hlt
      have HP2 := Aside0.mk (show r = -1 by rw [HP.out, List.drop_eq_nil_of_le hi2]; rfl)
      go_wp2
      go_ret
      exact ⟨by rw [HP2.out]; rfl, HB.out⟩

set_option maxHeartbeats 1000000 in
theorem lex_At.calls (A0 : Option Addr) (c0 : Nat) (l0 : List S50) (a1 : Int) (r : Int) (w : World) (hr0 : Kd.C k50 w A0 l0.length l0) (hc0 : l0.length ≤ c0) (h : lex_At.f l0 a1 = some r) :
    Calls Try.prog 21 #[.slice A0 l0.length c0, .int .i64 a1] w fun e w' => e = .returned (.int .i64 r) ∧ Below w.heap.size w w' := by
  unfold lex_At.f at h
  by_cases hl : l0.length ≤ 8796093022208
  case neg => rw [if_neg hl] at h; cases h
  rw [if_pos hl] at h
  have HR := Aside0.mk (Option.some.inj h).symm
  clear h
  have HR0 := Aside0.mk hr0
  have HC0 := Aside0.mk hc0
  clear hr0 hc0
  have HS := Aside0.mk (lex_Spans_f l0 hl (l0.length + 1) (Nat.lt_succ_self _))
  have HL := Aside0.mk (spans_length 0 l0)
  clear hl
  obtain ⟨ss, hss⟩ : ∃ ss, ss = spansFrom 0 l0 := ⟨_, rfl⟩
  rw [← hss] at HS HR HL
  clear hss
  have HB := Aside0.mk (below_alloc (Below.refl w.heap.size w) (.cells #[.int .i64 a1] 3))
  have hbx : (w.alloc (.cells #[.int .i64 a1] 3)).heap[w.heap.size]? = some (.cells #[.int .i64 a1] 3 (0, 0)) := heap_alloc_new w _
  have HX := Aside0.mk hbx
  clear hbx
  go_enter Try.func21, Try.ntmps21
  go_wp2_with (go_at_call 19; refine (lex_Spans.calls (l0.length + 1) _ _ l0 ss _ (Kd.C_below HR0.out HB.out) HC0.out HS.out).mono ?_; rintro e w1 ⟨v, rfl, ho, hb⟩; have HO := Aside0.mk ho; have HB1 := Aside0.mk hb; clear ho hb; obtain ⟨A1, c1, e1⟩ := Kd.R_slice HO.out; subst e1)
  have HX1 := Aside0.mk ((HB1.out.block _ (blk_lt HX.out)).trans HX.out)
  refine (indexFunc_calls (atB a1) A1 c1 ss (.pointer (some ⟨w.heap.size, 0, none⟩)) _ (Kd.R_reads' HO.out).2.2 ⟨fun s W hW => lexAt1_calls s a1 W w.heap.size (blk_cell ((hW.block _ (blk_lt HX1.out)).trans HX1.out) 0)⟩).mono ?_
  rintro e w2 ⟨rfl, hb2⟩
  have HB2 := Aside0.mk (below_step (below_step HB.out HB1.out) hb2)
  clear hb2
  go_wp2
  go_ret
  exact ⟨by rw [HR.out]; rfl, HB2.out⟩
end Go.Proofs.Ytejdjnfcfnppaaa.H
