/- LexPlaces, as a law of lists alone: where tokens stand, which has a place, which counts next, of any list of at most 20,000 tokens. -/
import Derived.Test.YtejdjnfcfnppaaaHxglossatorlaw12LexPlaces
import Derived.Test.YtejdjnfcfnppaaaHLexAt
import Derived.Test.YtejdjnfcfnppaaaHLexCounts
import Derived.OpenShut
set_option linter.unusedVariables false
set_option linter.unusedSimpArgs false
namespace Go.Proofs.Ytejdjnfcfnppaaa.Pure
open Go.RowKit Go.Proofs.Ytejdjnfcfnppaaa.H Go.Proofs.YtejdjnfcfnppaaaW.PrintWords Go.Proofs.YtejdjnfcfnppaaaW.PrintLast Go.Proofs.YtejdjnfcfnppaaaW.PrintMore

theorem wrap_lp {x : Int} (h0 : -9223372036854775808 ≤ x) (h1 : x ≤ 9223372036854775807) : wrap64 x = x := by unfold wrap64; omega
theorem rd50 (l : List S50) (i : Nat) (h : i < l.length) : rd_T50 l (i : Int) = l[i] := by simp [rd_T50, List.getD_eq_getElem?_getD, List.getElem?_eq_getElem h]
theorem rd42 (l : List S42) (i : Nat) (h : i < l.length) : rd_T42 l (i : Int) = l[i] := by simp [rd_T42, List.getD_eq_getElem?_getD, List.getElem?_eq_getElem h]
theorem spanTo_bounds (x : Int) (t : S50) (h0 : 0 ≤ x) (h1 : x ≤ 1099511627776) : 0 ≤ spanTo x t ∧ spanTo x t ≤ 1099511627776 ∧ spanTo x t = if t.f1 < 0 then (if 0 < 1099511627776 - x then x else 1099511627776) else (if t.f1 < 1099511627776 - x then x + t.f1 else 1099511627776) := by
  unfold spanTo mn mx wrap64
  refine ⟨?_, ?_, ?_⟩ <;> split <;> (try split) <;> (try split) <;> (try split) <;> (try split) <;> (try split) <;> omega
theorem refSpans_l0 (l : List S50) (hl : l.length ≤ 20000) (hp : ∀ t ∈ l, t.f1 ≤ 9223372036854775807) (d : Nat) : ∀ (k i : Nat) (out : List S42) (x : Int), i ≤ l.length → l.length - i = d → d < k → out.length = i → 0 ≤ x → x ≤ 1099511627776 →
    glossatorref12_Spans.l0 k l 1099511627776 out x (i : Int) = some (out ++ spansFrom x (l.drop i)) := by
  induction d with
  | zero =>
    intro k i out x hi hd hk ho h0 h1
    obtain ⟨k, rfl⟩ : ∃ m, k = m + 1 := ⟨k - 1, by omega⟩
    simp only [glossatorref12_Spans.l0]
    rw [if_neg (by omega), List.drop_eq_nil_of_le (by omega)]
    simp [spansFrom]
  | succ d ih =>
    intro k i out x hi hd hk ho h0 h1
    obtain ⟨k, rfl⟩ : ∃ m, k = m + 1 := ⟨k - 1, by omega⟩
    have hlt : i < l.length := by omega
    have hf := hp l[i] (List.getElem_mem hlt)
    obtain ⟨b0, b1, b2⟩ := spanTo_bounds x l[i] h0 h1
    have next := ih k (i + 1) (out ++ [⟨x, spanTo x l[i]⟩]) (spanTo x l[i]) (by omega) (by omega) (by omega) (by simp [ho]) b0 b1
    simp only [glossatorref12_Spans.l0]
    rw [if_pos (by omega), if_pos (by omega), rd50 l i hlt, wrap_lp (x := 1099511627776 - x) (by omega) (by omega), wrap_lp (x := (i : Int) + 1) (by omega) (by omega), wrap_lp (x := x) (by omega) (by omega), show ((i : Int) + 1) = ((i + 1 : Nat) : Int) by omega]
    have e : out ++ spansFrom x (l.drop i) = (out ++ [⟨x, spanTo x l[i]⟩]) ++ spansFrom (spanTo x l[i]) (l.drop (i + 1)) := by
      rw [List.drop_eq_getElem_cons hlt]
      simp [spansFrom]
    rw [e, ← next]
    have hout : out.length < 8796093022208 := by omega
    by_cases c1 : l[i].f1 < 0
    · rw [if_pos c1]
      rw [if_pos c1] at b2
      by_cases c2 : 0 < 1099511627776 - x
      · rw [if_pos c2, if_pos hout]
        rw [if_pos c2] at b2
        rw [b2]
      · rw [if_neg c2, if_pos hout]
        rw [if_neg c2] at b2
        rw [b2]
    · rw [if_neg c1]
      rw [if_neg c1] at b2
      by_cases c2 : l[i].f1 < 1099511627776 - x
      · rw [if_pos c2, if_pos hout, wrap_lp (by omega) (by omega)]
        rw [if_pos c2] at b2
        rw [b2]
      · rw [if_neg c2, if_pos hout]
        rw [if_neg c2] at b2
        rw [b2]
theorem refSpans_f (l : List S50) (hl : l.length ≤ 20000) (hp : ∀ t ∈ l, t.f1 ≤ 9223372036854775807) (k : Nat) (hk : l.length < k) : glossatorref12_Spans.f k l = some (spansFrom 0 l) := by
  unfold glossatorref12_Spans.f
  have := refSpans_l0 l hl hp l.length k 0 [] 0 (by omega) (by omega) hk rfl (by omega) (by omega)
  simpa using this
theorem refAt_l0 (ss : List S42) (place : Int) (hl : ss.length ≤ 20000) (d : Nat) : ∀ (k i : Nat), i ≤ ss.length → ss.length - i = d → d < k → glossatorref12_At.l0 k place ss (i : Int) = some (idxFrom (atB place) (ss.drop i) i) := by
  induction d with
  | zero =>
    intro k i hi hd hk
    obtain ⟨k, rfl⟩ : ∃ m, k = m + 1 := ⟨k - 1, by omega⟩
    simp only [glossatorref12_At.l0]
    rw [if_neg (by omega), List.drop_eq_nil_of_le (by omega)]
    rfl
  | succ d ih =>
    intro k i hi hd hk
    obtain ⟨k, rfl⟩ : ∃ m, k = m + 1 := ⟨k - 1, by omega⟩
    have hlt : i < ss.length := by omega
    simp only [glossatorref12_At.l0]
    rw [if_pos (by omega), if_pos (by omega), rd42 ss i hlt, wrap_lp (x := (i : Int) + 1) (by omega) (by omega), show ((i : Int) + 1) = ((i + 1 : Nat) : Int) by omega, ih k (i + 1) (by omega) (by omega) (by omega), List.drop_eq_getElem_cons hlt]
    simp only [idxFrom]
    by_cases c1 : ss[i].f0 ≤ place
    · rw [if_pos c1]
      by_cases c2 : ss[i].f1 > place
      · have hb : atB place ss[i] = true := by simp [atB, c1]; omega
        rw [if_pos c2, hb, if_pos rfl]
      · have hb : atB place ss[i] = false := by simp [atB, c1]; omega
        rw [if_neg c2, hb]
        rfl
    · have hb : atB place ss[i] = false := by simp [atB, c1]
      rw [if_neg c1, hb]
      rfl
theorem counts_same (a : Int) (h0 : 0 ≤ a) : glossatorref12_Counts.f a = some (countsB a) := by
  unfold glossatorref12_Counts.f glossatorref12_Token.f countsB triviaL
  by_cases h1 : a = 1
  · subst h1; rfl
  by_cases h2 : a = 2
  · subst h2; rfl
  by_cases h3 : a = 3
  · subst h3; rfl
  by_cases h4 : a = 4
  · subst h4; rfl
  by_cases h5 : a = 5
  · subst h5; rfl
  by_cases h9 : a = 9
  · subst h9; rfl
  by_cases h00 : a = 0
  · subst h00; rfl
  rw [if_neg h1, if_neg h2, if_neg h3, if_neg h4, if_neg h5, if_neg h9, if_pos (by omega)]
  have hc : ([0, 1, 2, 3, 4, 5, 9] : List Int).contains a = false := by simp [h1, h2, h3, h4, h5, h9, h00]
  rw [hc]
  by_cases g1 : a ≤ 17
  · rw [if_pos g1]
    simp [g1]; omega
  · rw [if_neg g1]
    by_cases g2 : a ≥ 20
    · rw [if_pos g2]
      simp [g1, g2]
    · rw [if_neg g2]
      simp [g1]; omega
/-- The first token that counts, from some place on. -/
def nextFrom : List S50 → Int → Int
  | [], i => i
  | t :: r, i => if countsB t.f0 then i else nextFrom r (i + 1)
theorem lexNext_l0 (l : List S50) (hl : l.length ≤ 20000) (d : Nat) : ∀ (k i : Nat), i ≤ l.length → l.length - i = d → d < k → lex_Next.l0 k l (i : Int) = some (nextFrom (l.drop i) i) := by
  induction d with
  | zero =>
    intro k i hi hd hk
    obtain ⟨k, rfl⟩ : ∃ m, k = m + 1 := ⟨k - 1, by omega⟩
    simp only [lex_Next.l0]
    rw [if_neg (by omega), List.drop_eq_nil_of_le (by omega)]
    simp only [nextFrom]
    congr 1
    omega
  | succ d ih =>
    intro k i hi hd hk
    obtain ⟨k, rfl⟩ : ∃ m, k = m + 1 := ⟨k - 1, by omega⟩
    have hlt : i < l.length := by omega
    simp only [lex_Next.l0]
    rw [if_pos (by omega), if_pos (by omega), rd50 l i hlt, wrap_lp (x := (i : Int) + 1) (by omega) (by omega), show ((i : Int) + 1) = ((i + 1 : Nat) : Int) by omega, ih k (i + 1) (by omega) (by omega) (by omega), List.drop_eq_getElem_cons hlt]
    unfold lex_Counts.f
    rw [Option.bind_some]
    simp only [nextFrom]
    split <;> rfl
theorem refNext_l0 (l : List S50) (n : Int) (hl : l.length ≤ 20000) (hp : ∀ t ∈ l, 0 ≤ t.f0) (d : Nat) : ∀ (k i : Nat), i ≤ l.length → l.length - i = d → d < k → n ≤ i → glossatorref12_Next.l0 k l n (i : Int) = some (nextFrom (l.drop i) i) := by
  induction d with
  | zero =>
    intro k i hi hd hk hn
    obtain ⟨k, rfl⟩ : ∃ m, k = m + 1 := ⟨k - 1, by omega⟩
    simp only [glossatorref12_Next.l0]
    rw [if_neg (by omega), List.drop_eq_nil_of_le (by omega)]
    simp only [nextFrom]
    congr 1
    omega
  | succ d ih =>
    intro k i hi hd hk hn
    obtain ⟨k, rfl⟩ : ∃ m, k = m + 1 := ⟨k - 1, by omega⟩
    have hlt : i < l.length := by omega
    simp only [glossatorref12_Next.l0]
    rw [if_pos (by omega), if_pos (by omega), if_pos (by omega), rd50 l i hlt, wrap_lp (x := (i : Int) + 1) (by omega) (by omega), show ((i : Int) + 1) = ((i + 1 : Nat) : Int) by omega, ih k (i + 1) (by omega) (by omega) (by omega) (by omega), counts_same _ (hp _ (List.getElem_mem hlt)), Option.bind_some, List.drop_eq_getElem_cons hlt]
    simp only [nextFrom]
    split <;> rfl
/-- Ahead of n nothing is asked. -/
theorem refNext_skip (l : List S50) (n : Nat) (hl : l.length ≤ 20000) (hn : n ≤ l.length) (k : Nat) (d : Nat) : ∀ i : Nat, i ≤ n → n - i = d → glossatorref12_Next.l0 (k + d) l (n : Int) (i : Int) = glossatorref12_Next.l0 k l (n : Int) (n : Int) := by
  induction d with
  | zero => intro i hi hd; rw [show i = n by omega]; rfl
  | succ d ih =>
    intro i hi hd
    rw [show k + (d + 1) = (k + d) + 1 by omega]
    rw [glossatorref12_Next.l0, if_pos (by omega), if_neg (by omega), wrap_lp (by omega) (by omega), show ((i : Int) + 1) = ((i + 1 : Nat) : Int) by omega]
    exact ih (i + 1) (by omega) (by omega)
theorem refNext_far (l : List S50) (n : Int) (hl : l.length ≤ 20000) (hn : (l.length : Int) < n) (d : Nat) : ∀ (k i : Nat), i ≤ l.length → l.length - i = d → d < k → glossatorref12_Next.l0 k l n (i : Int) = some (l.length : Int) := by
  induction d with
  | zero =>
    intro k i hi hd hk
    obtain ⟨k, rfl⟩ : ∃ m, k = m + 1 := ⟨k - 1, by omega⟩
    simp only [glossatorref12_Next.l0]
    rw [if_neg (by omega)]
  | succ d ih =>
    intro k i hi hd hk
    obtain ⟨k, rfl⟩ : ∃ m, k = m + 1 := ⟨k - 1, by omega⟩
    rw [glossatorref12_Next.l0, if_pos (by omega), if_neg (by omega), wrap_lp (by omega) (by omega), show ((i : Int) + 1) = ((i + 1 : Nat) : Int) by omega]
    exact ih k (i + 1) (by omega) (by omega) (by omega)
theorem next_same (l : List S50) (n : Int) (hl : l.length ≤ 20000) (hp : ∀ t ∈ l, 0 ≤ t.f0) (k : Nat) (hk : 2 * l.length < k) : ∃ r, lex_Next.f k l n = some r ∧ glossatorref12_Next.f k l n = some r := by
  unfold lex_Next.f glossatorref12_Next.f
  by_cases h1 : n ≤ 0
  · have e : mx n 0 = ((0 : Nat) : Int) := by unfold mx; split <;> omega
    rw [e]
    exact ⟨_, lexNext_l0 l hl l.length k 0 (by omega) (by omega) (by omega), refNext_l0 l n hl hp l.length k 0 (by omega) (by omega) (by omega) (by omega)⟩
  · obtain ⟨m, rfl⟩ := Int.eq_ofNat_of_zero_le (show 0 ≤ n by omega)
    have e : mx (m : Int) 0 = (m : Int) := by unfold mx; split <;> omega
    rw [e]
    by_cases h2 : m ≤ l.length
    · refine ⟨_, lexNext_l0 l hl (l.length - m) k m (by omega) (by omega) (by omega), ?_⟩
      have := refNext_skip l m hl h2 (k - m) m 0 (by omega) (by omega)
      rw [show k - m + m = k by omega] at this
      rw [show (0 : Int) = ((0 : Nat) : Int) from rfl, this]
      exact refNext_l0 l m hl hp (l.length - m) (k - m) m (by omega) (by omega) (by omega) (by omega)
    · refine ⟨(l.length : Int), ?_, refNext_far l m hl (by omega) l.length k 0 (by omega) (by omega) (by omega)⟩
      obtain ⟨k, rfl⟩ : ∃ m, k = m + 1 := ⟨k - 1, by omega⟩
      rw [lex_Next.l0, if_neg (by omega)]
theorem same50_l0 (l : List S50) (hl : l.length ≤ 20000) (d : Nat) : ∀ (k i : Nat), i ≤ l.length → l.length - i = d → d < k → glossatorref12_Same.l0 k l l (i : Int) = some true := by
  induction d with
  | zero =>
    intro k i hi hd hk
    obtain ⟨k, rfl⟩ : ∃ m, k = m + 1 := ⟨k - 1, by omega⟩
    simp only [glossatorref12_Same.l0]
    rw [if_neg (by omega)]
  | succ d ih =>
    intro k i hi hd hk
    obtain ⟨k, rfl⟩ : ∃ m, k = m + 1 := ⟨k - 1, by omega⟩
    rw [glossatorref12_Same.l0, if_pos (by omega), if_pos (by omega), if_pos (by omega), if_neg (by simp), wrap_lp (by omega) (by omega), show ((i : Int) + 1) = ((i + 1 : Nat) : Int) by omega]
    exact ih k (i + 1) (by omega) (by omega) (by omega)
theorem places_end (k : Nat) (l : List S50) (a1 a2 a3 : Int) (ss : List S42) (x12 : Int) (hx : ¬ x12 < (ss.length : Int)) (r n : Int) (b : Bool) (h1 : lex_At.f l a1 = some r) (h2 : glossatorref12_At.f k l a1 = some r) (h3 : lex_Next.f k l a2 = some n) (h4 : glossatorref12_Next.f k l a2 = some n) (h5 : lex_Counts.f a3 = some b) (h6 : glossatorref12_Counts.f a3 = some b) (h7 : glossatorref12_Same.f k l l = some true) : glossatorlaw12_LexPlaces.l0 (k + 1) l a1 a2 a3 l ss ss x12 = some true := by
  rw [glossatorlaw12_LexPlaces.l0, if_neg hx, h1, Option.bind_some, h2, Option.bind_some, if_pos rfl, h3, Option.bind_some, h4, Option.bind_some, if_pos rfl, h5, Option.bind_some, h6, Option.bind_some, if_pos (by simp), h7, Option.bind_some]
theorem places_l0 (k : Nat) (l : List S50) (a1 a2 a3 : Int) (ss : List S42) (hl : ss.length ≤ 20000) (hE : ∀ x12 : Int, ¬ x12 < (ss.length : Int) → ∀ j, k ≤ j → glossatorlaw12_LexPlaces.l0 (j + 1) l a1 a2 a3 l ss ss x12 = some true) (d : Nat) : ∀ i : Nat, i ≤ ss.length → ss.length - i = d → glossatorlaw12_LexPlaces.l0 (k + 1 + d) l a1 a2 a3 l ss ss (i : Int) = some true := by
  induction d with
  | zero => intro i hi hd; exact hE _ (by omega) k (Nat.le_refl _)
  | succ d ih =>
    intro i hi hd
    rw [show k + 1 + (d + 1) = (k + 1 + d) + 1 by omega, glossatorlaw12_LexPlaces.l0, if_pos (by omega), if_pos (by omega), if_pos (by omega), if_neg (by simp), wrap_lp (by omega) (by omega), show ((i : Int) + 1) = ((i + 1 : Nat) : Int) by omega]
    exact ih (i + 1) (by omega) (by omega)
theorem LexPlaces (l : List S50) (a1 a2 a3 : Int) (_ : l.length * 24 ≤ 140737488351232) (hp : ∀ t ∈ l, (Lit.int .u8 t.f0).wf = true ∧ (Lit.int .i64 t.f1).wf = true ∧ (Lit.int .i64 t.f2).wf = true) (_ : (Lit.int .i64 a1).wf = true) (_ : (Lit.int .i64 a2).wf = true) (h3 : (Lit.int .u8 a3).wf = true) : ∃ k, glossatorlaw12_LexPlaces.f k l a1 a2 a3 = some true := by
  by_cases hl : (l.length : Int) > 20000
  · exact ⟨0, by unfold glossatorlaw12_LexPlaces.f; rw [if_pos hl]⟩
  · have hl2 : l.length ≤ 20000 := by omega
    have hu8 : ∀ n : Int, (Lit.int .u8 n).wf = true → 0 ≤ n := fun n h => (bounds_u8 h).1
    have hi64 : ∀ n : Int, (Lit.int .i64 n).wf = true → n ≤ 9223372036854775807 := fun n h => (bounds_i64 h).2
    have hp0 : ∀ t ∈ l, 0 ≤ t.f0 := fun t ht => hu8 _ (hp t ht).1
    have hp1 : ∀ t ∈ l, t.f1 ≤ 9223372036854775807 := fun t ht => hi64 _ (hp t ht).2.1
    obtain ⟨k, hk⟩ : ∃ k : Nat, 2 * l.length < k := ⟨_, Nat.lt_succ_self _⟩
    have hsl := spans_length 0 l
    refine ⟨k + 1 + l.length, ?_⟩
    have key : ∀ j, k ≤ j → ∀ x12 : Int, ¬ x12 < ((spansFrom 0 l).length : Int) → glossatorlaw12_LexPlaces.l0 (j + 1) l a1 a2 a3 l (spansFrom 0 l) (spansFrom 0 l) x12 = some true := by
      intro j hj x12 hx
      obtain ⟨n, hn1, hn2⟩ := next_same l a2 hl2 hp0 j (by omega)
      refine places_end j l a1 a2 a3 _ x12 hx (idxFrom (atB a1) (spansFrom 0 l) 0) n (countsB a3) ?_ ?_ hn1 hn2 rfl (counts_same a3 (hu8 _ h3)) ?_
      · unfold lex_At.f; rw [if_pos (by omega)]
      · unfold glossatorref12_At.f
        rw [refSpans_f l hl2 hp1 j (by omega), Option.bind_some]
        have := refAt_l0 (spansFrom 0 l) a1 (by omega) (spansFrom 0 l).length j 0 (by omega) (by omega) (by omega)
        simpa using this
      · unfold glossatorref12_Same.f
        rw [if_pos rfl]
        exact same50_l0 l hl2 l.length j 0 (by omega) (by omega) (by omega)
    unfold glossatorlaw12_LexPlaces.f
    rw [if_neg hl, Option.bind_some, if_pos (by simp only [List.length_nil]; omega), List.nil_append, Option.bind_some, lex_Spans_f l (by omega) _ (by omega), Option.bind_some, refSpans_f l hl2 hp1 _ (by omega), Option.bind_some, if_pos rfl]
    have := places_l0 k l a1 a2 a3 (spansFrom 0 l) (by omega) (fun x hx j hj => key j hj x hx) (spansFrom 0 l).length 0 (by omega) (by omega)
    rw [hsl] at this
    exact this
end Go.Proofs.Ytejdjnfcfnppaaa.Pure
