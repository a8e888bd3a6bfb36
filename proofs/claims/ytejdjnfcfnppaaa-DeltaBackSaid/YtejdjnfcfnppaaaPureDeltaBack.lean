/- DeltaBack, as a law of lists alone: what two lists differ in leads from the one to the other, of lists of at most 50,000 numbers together. -/
import Derived.Test.YtejdjnfcfnppaaaHxglossatorlaw24DeltaBack
import Derived.Test.YtejdjnfcfnppaaaHDeltaPlain
namespace Go.Proofs.Ytejdjnfcfnppaaa.Pure
open Go.RowKit Go.Proofs.Ytejdjnfcfnppaaa.H Go.Proofs.YtejdjnfcfnppaaaW.PrintWords Go.Proofs.YtejdjnfcfnppaaaW.PrintLast

theorem edits_some (a b : List Int) (h : a.length + b.length ≤ 50000) : ∃ l, delta_Edits.f a b = some l := by
  unfold delta_Edits.f
  rw [if_pos ⟨by omega, by omega⟩]
  split <;> exact ⟨_, rfl⟩
theorem total_nil (k : Nat) (a b : List Int) (ha : a.length * 8 ≤ 140737488351232) (hb : b.length * 8 ≤ 140737488351232) : glossatorlaw24_total.f (k + 1) a b [] = some ((a.length : Int) + b.length) := by
  unfold glossatorlaw24_total.f
  simp only [glossatorlaw24_total.l0]
  rw [if_neg (by simp), wrap_le (by omega) (by omega)]
theorem back_many (k : Nat) (a b : List Int) (t : Int) (h1 : glossatorlaw24_total.f k a b [] = some t) (ht : t > 50000) : glossatorlaw24_DeltaBack.f k a b = some true := by
  unfold glossatorlaw24_DeltaBack.f glossatorlaw24_awake.f
  rw [Option.bind_some, if_pos rfl, h1, Option.bind_some, if_pos ht]
theorem back_few (k : Nat) (a b : List Int) (t : Int) (l m : List S27) (h1 : glossatorlaw24_total.f k a b [] = some t) (ht : ¬ t > 50000) (h2 : delta_Edits.f a b = some l) (h3 : delta_Apply.f a l = some (b, 0)) (h4 : delta_Edits.f b a = some m) (h5 : delta_Apply.f b m = some (a, 0)) (h6 : glossatorref24_Same.f k b b = some true) (h7 : glossatorref24_Same.f k a a = some true) : glossatorlaw24_DeltaBack.f k a b = some true := by
  unfold glossatorlaw24_DeltaBack.f glossatorlaw24_awake.f
  rw [Option.bind_some, if_pos rfl, h1, Option.bind_some, if_neg ht, h2, Option.bind_some, h3, Option.bind_some, h4, Option.bind_some, h5, Option.bind_some, if_pos rfl, h6, Option.bind_some, if_pos rfl, if_pos rfl, h7, Option.bind_some]
theorem DeltaBack : glossatorlaw24_DeltaBack.Pure := by
  intro a b _ ha _ _ hb _
  obtain ⟨k, hk⟩ : ∃ k : Nat, a.length + b.length < k := ⟨_, Nat.lt_succ_self _⟩
  refine ⟨k + 1, ?_⟩
  have h1 := total_nil k a b ha hb
  by_cases ht : (a.length : Int) + b.length > 50000
  · exact back_many _ a b _ h1 ht
  · obtain ⟨l, hl⟩ := edits_some a b (by omega)
    obtain ⟨m, hm⟩ := edits_some b a (by omega)
    exact back_few _ a b _ l m h1 ht hl (apply_edits a b (by omega) hl) hm (apply_edits b a (by omega) hm) (by rw [same_f b b (by omega) _ (by omega)]; simp) (by rw [same_f a a (by omega) _ (by omega)]; simp)
end Go.Proofs.Ytejdjnfcfnppaaa.Pure
