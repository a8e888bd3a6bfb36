/- DeltaApplies: what the chapter's definition answers is what the fast one does. Lists alone. -/
import Derived.Test.YtejdjnfcfnppaaaHDeltaApplies
import Derived.Test.YtejdjnfcfnppaaaPureDeltaParts
set_option linter.unusedVariables false
set_option linter.unusedSimpArgs false
namespace Go.Proofs.Ytejdjnfcfnppaaa.Pure
open Go.RowKit Go.Proofs.Ytejdjnfcfnppaaa.H Go.Proofs.YtejdjnfcfnppaaaW.PrintWords Go.Proofs.YtejdjnfcfnppaaaW.PrintLast

/-- Are all splices right, from where the last one ended? -/
def fine (n : Int) : List S27 → Int → Bool
  | [], _ => true
  | s :: r, e => if s.f0 < e ∨ s.f0 > n ∨ s.f1 < 0 ∨ s.f1 > n - s.f0 then false else fine n r (s.f0 + s.f1)
/-- What right splices come to. -/
def build (a : List Int) : List S27 → List Int → Int → List Int
  | [], out, x => out ++ a.drop x.toNat
  | s :: r, out, x => build a r (out ++ (a.take s.f0.toNat).drop x.toNat ++ s.f2) (s.f0 + s.f1)
theorem go_eq (a : List Int) (l : List S27) : ∀ (out : List Int) (x : Int), 0 ≤ x → x ≤ a.length → out.length + (a.length - x.toNat) + brings l ≤ 17592186044416 → delta_Apply.go a l out x = some (if fine a.length l x then (build a l out x, 0) else ([], 240)) := by
  induction l with
  | nil =>
    intro out x h0 h1 h
    unfold delta_Apply.go
    rw [if_pos (by simp [brings] at h; omega)]
    simp [fine, build]
  | cons s l ih =>
    intro out x h0 h1 h
    rw [brings_cons] at h
    unfold delta_Apply.go
    by_cases hb : s.f0 < x ∨ s.f0 > (a.length : Int) ∨ s.f1 < 0 ∨ s.f1 > (a.length : Int) - s.f0
    · rw [if_pos hb]
      simp only [fine, if_pos hb]
      simp
    · rw [if_neg hb, if_pos (by omega)]
      simp only [fine, if_neg hb, build]
      refine ih _ _ (by omega) (by omega) ?_
      simp only [List.length_append, List.length_drop, List.length_take]
      omega
theorem rd27_mid (q : List S27) (s : S27) (l : List S27) : rd_T27 (q ++ s :: l) (q.length : Int) = s := by
  simp [rd_T27, List.getD_eq_getElem?_getD]
theorem build_length (a : List Int) (l : List S27) : ∀ (out : List Int) (x : Int), 0 ≤ x → x ≤ a.length → fine a.length l x = true → (build a l out x).length ≤ out.length + (a.length - x.toNat) + brings l := by
  induction l with
  | nil => intro out x h0 h1 _; simp [build, brings]
  | cons s l ih =>
    intro out x h0 h1 h
    simp only [fine] at h
    split at h
    · cases h
    · next hb =>
      rw [brings_cons]
      simp only [build]
      have := ih (out ++ (a.take s.f0.toNat).drop x.toNat ++ s.f2) (s.f0 + s.f1) (by omega) (by omega) h
      simp only [List.length_append, List.length_drop, List.length_take] at this
      omega
section
variable (a : List Int) (ha : a.length ≤ 1000000)
include ha
theorem ref_go (l : List S27) : ∀ (q : List S27) (out : List Int) (x : Int), (q ++ l).length ≤ 1000000 → 0 ≤ x → x ≤ a.length → fine a.length l x = true → out.length + (a.length - x.toNat) + brings l ≤ 1000000 →
    Ev (fun m => glossatorref24_Apply.l1 m a (q ++ l) out x (q.length : Int)) (build a l out x, 0) := by
  induction l with
  | nil =>
    intro q out x hq h0 h1 hf hs
    simp only [brings, List.map_nil, List.sum_nil] at hs
    refine Ev.step (f := fun _ => some (build a [] out x, 0)) (fun m => ?_) (Ev.now _)
    rw [glossatorref24_Apply.l1, if_neg (by simp), if_pos h0, if_pos (by omega), if_pos (by simp only [List.length_drop]; omega)]
    rfl
  | cons s l ih =>
    intro q out x hq h0 h1 hf hs
    rw [brings_cons] at hs
    simp only [fine] at hf
    split at hf
    · cases hf
    next hb =>
    have hlen : (q ++ s :: l).length = q.length + l.length + 1 := by simp; omega
    simp only [build]
    refine Ev.step (f := fun m => glossatorref24_Apply.l2 m a (q ++ s :: l) out x (q.length : Int)) (fun m => by rw [glossatorref24_Apply.l1, if_pos (by omega)]) ?_
    have fill : ∀ (d : Nat) (o : List Int) (y : Int), 0 ≤ y → y ≤ s.f0 → (s.f0 - y).toNat = d → o.length + d + s.f2.length + brings l + (a.length - s.f0.toNat) ≤ 1000000 →
        Ev (fun m => glossatorref24_Apply.l2 m a (q ++ s :: l) o y (q.length : Int)) (build a l (o ++ (a.take s.f0.toNat).drop y.toNat ++ s.f2) (s.f0 + s.f1), 0) := by
      intro d
      induction d with
      | zero =>
        intro o y g0 g1 g2 g3
        obtain rfl : y = s.f0 := by omega
        have e : (a.take s.f0.toNat).drop s.f0.toNat = [] := List.drop_eq_nil_of_le (by simp; omega)
        have h2 := ih (q ++ [s]) (o ++ s.f2) (s.f0 + s.f1) (by simpa using hq) (by omega) (by omega) hf (by simp only [List.length_append]; omega)
        rw [show ((q ++ [s]).length : Int) = (q.length : Int) + 1 by simp, List.append_assoc q, List.singleton_append] at h2
        rw [e, List.append_nil]
        refine Ev.step (fun m => ?_) h2
        rw [glossatorref24_Apply.l2, if_pos (by omega), if_pos (by omega), rd27_mid, if_neg (by omega), if_pos (by omega), wrap_le (x := s.f0 + s.f1) (by omega) (by omega), wrap_le (x := (q.length : Int) + 1) (by omega) (by omega)]
      | succ d ihd =>
        intro o y g0 g1 g2 g3
        have hy : y.toNat < a.length := by omega
        have h2 := ihd (o ++ [rd a y]) (y + 1) (by omega) (by omega) (by omega) (by simp only [List.length_append, List.length_singleton]; omega)
        have e : (a.take s.f0.toNat).drop y.toNat = rd a y :: (a.take s.f0.toNat).drop (y + 1).toNat := by
          rw [show (y + 1).toNat = y.toNat + 1 by omega, List.drop_eq_getElem_cons (by simp; omega)]
          simp [rd, List.getD_eq_getElem?_getD, List.getElem?_eq_getElem hy]
        rw [e, show o ++ rd a y :: (a.take s.f0.toNat).drop (y + 1).toNat = o ++ [rd a y] ++ (a.take s.f0.toNat).drop (y + 1).toNat by simp]
        refine Ev.step (fun m => ?_) h2
        rw [glossatorref24_Apply.l2, if_pos (by omega), if_pos (by omega), rd27_mid, if_pos (by omega), if_pos g0, if_pos (by omega), if_pos (by omega), wrap_le (x := y + 1) (by omega) (by omega)]
    exact fill _ out x h0 (by omega) rfl (by omega)
theorem ref_check (l : List S27) : ∀ (q : List S27) (x : Int) (r : List Int × Int), (q ++ l).length ≤ 1000000 → 0 ≤ x → x ≤ a.length → (fine a.length l x = false → r = ([], 240)) → (fine a.length l x = true → Ev (fun m => glossatorref24_Apply.l1 m a (q ++ l) [] 0 0) r) →
    Ev (fun m => glossatorref24_Apply.l0 m a (q ++ l) x (q.length : Int)) r := by
  induction l with
  | nil =>
    intro q x r hq h0 h1 _ hr
    refine Ev.step (fun m => ?_) (hr rfl)
    rw [glossatorref24_Apply.l0, if_neg (by simp)]
  | cons s l ih =>
    intro q x r hq h0 h1 hn hr
    have hlen : (q ++ s :: l).length = q.length + l.length + 1 := by simp; omega
    by_cases hb : s.f0 < x ∨ s.f0 > (a.length : Int) ∨ s.f1 < 0 ∨ s.f1 > (a.length : Int) - s.f0
    · have e := hn (by simp only [fine, if_pos hb])
      subst e
      refine Ev.step (f := fun _ => some ([], 240)) (fun m => ?_) (Ev.now _)
      rw [glossatorref24_Apply.l0, if_pos (by omega), if_pos (by omega), rd27_mid]
      by_cases c1 : s.f0 < x
      · rw [if_pos c1]
      rw [if_neg c1]
      by_cases c2 : s.f1 < 0
      · rw [if_pos c2]
      rw [if_neg c2]
      by_cases c3 : s.f0 > (a.length : Int)
      · rw [if_pos c3]
      rw [if_neg c3]
      by_cases c4 : s.f1 > (a.length : Int)
      · rw [if_pos c4]
      rw [if_neg c4, wrap_le (x := s.f0 + s.f1) (by omega) (by omega), if_pos (by omega)]
    · have h2 := ih (q ++ [s]) (s.f0 + s.f1) r (by simpa using hq) (by omega) (by omega) (fun h => hn (by simp only [fine, if_neg hb]; exact h)) (fun h => by
        have := hr (by simp only [fine, if_neg hb]; exact h)
        simpa using this)
      rw [show ((q ++ [s]).length : Int) = (q.length : Int) + 1 by simp, List.append_assoc q, List.singleton_append] at h2
      refine Ev.step (fun m => ?_) h2
      rw [glossatorref24_Apply.l0, if_pos (by omega), if_pos (by omega), rd27_mid, if_neg (by omega), if_neg (by omega), if_neg (by omega), if_neg (by omega), wrap_le (x := s.f0 + s.f1) (by omega) (by omega), if_neg (by omega), wrap_le (x := (q.length : Int) + 1) (by omega) (by omega)]
end
theorem applies_fair (a : List Int) (l : List S27) (hl : l.length ≤ 2000) (ht : (a.length : Int) + brings l + l.length ≤ 50000) : ∃ K, ∀ k, K ≤ k → AppliesFair k a l := by
  obtain ⟨r, hr⟩ : ∃ r, r = (if fine a.length l 0 then (build a l [] 0, 0) else (([] : List Int), (240 : Int))) := ⟨_, rfl⟩
  have h1 : delta_Apply.f a l = some r := by
    unfold delta_Apply.f
    rw [hr]
    exact go_eq a l [] 0 (by omega) (by omega) (by simp; omega)
  have h2 : Ev (fun m => glossatorref24_Apply.f m a l) r := by
    have := ref_check a (by omega) l [] 0 r (by simp; omega) (by omega) (by omega) (fun h => by rw [hr, h]; rfl) (fun h => by
      rw [hr, h]
      have := ref_go a (by omega) l [] [] 0 (by simp; omega) (by omega) (by omega) h (by simp; omega)
      simpa using this)
    exact Ev.congr (fun m => by unfold glossatorref24_Apply.f; rfl) this
  have h3 : r.1.length ≤ 50000 := by
    rw [hr]
    cases hf : fine a.length l 0 with
    | true => have := build_length a l [] 0 (by omega) (by omega) hf; simp at this ⊢; omega
    | false => simp
  obtain ⟨K, hK⟩ := h2
  obtain ⟨M, hM⟩ : ∃ M : Nat, 60000 < M := ⟨_, Nat.lt_succ_self _⟩
  refine ⟨K + M, fun k hk => ⟨r.1, r.2, hK k (by omega), h1, by rw [same_f _ _ (by omega) k (by omega)]; simp, by rw [same_f _ _ (by omega) k (by omega)]; simp, fun s hs => ?_, by omega⟩⟩
  have := brings_mem l s hs
  exact ⟨by rw [same_f _ _ (by omega) k (by omega)]; simp, by omega⟩
end Go.Proofs.Ytejdjnfcfnppaaa.Pure
namespace Go.Proofs.Ytejdjnfcfnppaaa.H
open Go.RowKit Go.Proofs.YtejdjnfcfnppaaaW.PrintWords Go.Proofs.YtejdjnfcfnppaaaW.PrintLast
/-- All that DeltaApplies' walk asks. -/
def AppliesFacts (k : Nat) (a : List Int) (l : List S27) (b : Bool) : Prop := b = true ∧ (l.length ≤ 2000 → ∃ t : Int, glossatorlaw24_total.f k a [] l = some t ∧ (¬ t > 50000 → AppliesFair k a l))
theorem glossatorlaw24_DeltaApplies.calls (k : Nat) (A0 : Option Addr) (c0 : Nat) (l0 : List Int) (A1 : Option Addr) (c1 : Nat) (l1 : List S27) (t : Bool) (w : World) (hr0 : Kd.C (Kd.int .i64) w A0 l0.length l0) (hc0 : l0.length ≤ c0) (hr1 : Kd.C k27 w A1 l1.length l1) (hc1 : l1.length ≤ c1) (h : AppliesFacts k l0 l1 t) :
    Calls Try.prog 3 #[.slice A0 l0.length c0, .slice A1 l1.length c1] w fun e w' => e = .returned (.bool t) ∧ Below w.heap.size w w' := by
  obtain ⟨rfl, h1⟩ := h
  exact applies_calls k A0 c0 l0 A1 c1 l1 w hr0 hc0 hr1 hc1 h1
end Go.Proofs.Ytejdjnfcfnppaaa.H
namespace Go.Proofs.Ytejdjnfcfnppaaa.Pure
open Go.RowKit Go.Proofs.Ytejdjnfcfnppaaa.H Go.Proofs.YtejdjnfcfnppaaaW.PrintWords Go.Proofs.YtejdjnfcfnppaaaW.PrintLast
theorem DeltaApplies (a : List Int) (l : List S27) (ha : a.length * 8 ≤ 140737488351232) (_ : ∀ y ∈ a, (Lit.int .i64 y).wf = true) (_ : l.length * 40 ≤ 140737488351232) (hp : ∀ y ∈ l, P27 y) : ∃ k : Nat, AppliesFacts k a l true := by
  by_cases hl : l.length ≤ 2000
  · have hp' : ∀ s ∈ l, s.f2.length ≤ 17592186044416 := fun s hs => by
      have := hp s hs
      unfold P27 at this
      omega
    by_cases ht : (a.length : Int) + brings l + l.length ≤ 50000
    · obtain ⟨K, hK⟩ := applies_fair a l hl ht
      exact ⟨K + l.length + 1, rfl, fun _ => ⟨_, total_f _ a l (by omega) hl hp' (by omega), fun _ => hK _ (by omega)⟩⟩
    · exact ⟨l.length + 1, rfl, fun _ => ⟨_, total_f _ a l (by omega) hl hp' (by omega), fun h => absurd (by omega) ht⟩⟩
  · exact ⟨0, rfl, fun h => absurd h hl⟩
end Go.Proofs.Ytejdjnfcfnppaaa.Pure
